/- Walks: what each function of the program returns, for every input. Printed by gen.py. -/
import Derived.Test.YtbbcmlpmpgjhlaaDoorW1
set_option linter.all false
namespace Go.Sw
open Go Go.RowKit Go.Proofs

theorem c_impl_copyServers (l : (Sl PServer)) (w : World) (h_l : Ph.ok w l) (hb : lsz TServer.size (l.l.map PServer.lg) ≤ 1048576) : Calls Tryd.prog 86 [Sl.v l].toArray w (Ret w (fun v w' => ∃ x : Sl PServer, v = x.v ∧ x.l.map PServer.lg = l.l.map PServer.lg ∧ Fresh w x w')) := by
 have hw := h_l.lt
 have hbl : l.l.length ≤ 1048576 := by simp only [lsz, List.length_map] at hb; omega
 refine enterN 25 Tryd.func86 rfl rfl rfl ?_
 have hs := Sat.start w
 refine WC.seq ?_
 refine Qa ?_
 refine WL.next ?_
 refine WC.seq ?_
 refine WL.r Q0 (Yr.buildSlice hs sll56 Q0 Q0 Q0 Q4 Q0) ?_
 clear hs; rintro _ w ⟨b1, rfl, hb, hs⟩; clear hb
 refine Qa ?_
 refine WL.next ?_
 refine WC.seq' ?_
 refine WC.seq ?_
 refine Qm ?_
 refine WL.p Q0 (Yl.len_sl slu56 Q0) ?_
 refine Qm ?_
 refine WL.next ?_
 refine WC.block ?_
 replace hs := Sat.boxow (l := ([] : List PServer)) hs rfl rfl (by simp) rfl
 refine WC.loopC (ι := Nat × Sl PServer × List Nat) (fun ⟨k, q, F⟩ => l.l.length - k) (fun ⟨k, q, F⟩ => [(9, I (k : Int)), (3, q.v)]) (fun ⟨k, q, F⟩ => [ow q F]) (fun ⟨k, q, F⟩ => k ≤ l.l.length ∧ q.l.map PServer.lg = (l.l.take k).map PServer.lg) [(0, _), (2, _), (7, _), (8, _)] (0, ⟨[], some ⟨b1, 0, none⟩, 0⟩, [b1]) (hs.sel (D := [ow (⟨[], some ⟨b1, 0, none⟩, 0⟩ : Sl PServer) [b1]]) Q2) ⟨by rfl, by rfl, by rfl, by rfl, trivial⟩ ⟨by rfl, by rfl, trivial⟩ ?_ ?_
 ·
  exact ⟨Nat.zero_le _, rfl⟩
 clear hs; rintro ⟨k, q, F⟩ w ⟨hJ1, hJ2⟩ hs
 simp only [List.cons_append, List.nil_append] at hs
 refine WC.seq ?_
 refine WL.p Q0 (Yl.lss Q0 Q0) ?_
 refine WL.next ?_
 refine WC.seq' ?_
 refine WC.condS Q0 (fun h1 => ?_) (fun h1 => ?_)
 ·
  replace h1 := of_decide_eq_true h1
  obtain ⟨d, hd⟩ := exists_get (l := l.l) (k := k) Q7
  have hql : q.l.length = k := by have := congrArg List.length hJ2; simp at this; omega
  have hdl := lsum_le (f := fun d : PServer => d.lg.size) (List.mem_of_getElem? hd)
  have hdf : d.files.l.length ≤ 1048576 := by rw [lsz_map] at hb; simp only [lsz, TServer.size] at hb hdl; omega
  refine WC.skipn ?_
  refine WC.seq' ?_
  refine WC.block ?_
  refine WC.seq ?_
  refine WL.p Q0 (Yl.indexAddr slt56 Q0 Q0 (Ph.old h_l hs) Q0 (hd)) ?_
  refine WL.p Q0 (Yl.loadA agg112 Q0 (Sl.Ok.at_ (Ph.old h_l hs) (by assumption)).2 Q0) ?_
  refine WL.r Q0 (Yr.alloc hs zt112) ?_
  clear hs; rintro _ w ⟨b2, rfl, hb, hs⟩; clear hb
  refine WL.s (Yr.storeB hs Q0 Q0 Q0 Q5 Q3 Q0 (by exact szf112)) ?_
  clear hs; rintro _ w hs
  refine WL.next ?_
  refine WC.anyX (K := [ow q F]) mixed hs Q2 ?_
  clear hs; intro w hs
  refine WA.p (i := 0) Q0 Q6 Q6 Q6 Q0 (hs.only Q2) (fun w hs => Yl.move Q0) ?_
  refine WA.p (i := 1) Q0 Q6 Q6 Q6 Q0 (hs.only Q2) (fun w hs => Yl.fieldAddr fa112_0 Q0) ?_
  refine WA.p (i := 2) Q0 Q6 Q6 Q6 Q0 (hs.only Q2) (fun w hs => Yl.loadB sca9 Q0 hs Q1 Q0) ?_
  refine WA.p (i := 4) Q0 Q6 Q6 Q6 Q0 (hs.only Q2) (fun w hs => Yl.fieldAddr fa112_1 Q0) ?_
  refine WA.p (i := 5) Q0 Q6 Q6 Q6 Q0 (hs.only Q2) (fun w hs => Yl.loadB sca110 Q0 hs Q1 Q0) ?_
  refine WA.r (i := 3) Q6 Q0 Q0 (Yr.buildSlice hs sll110 Q0 Q0 Q0 Q4 Q0) (by rintro _ w ⟨b3, rfl, hb, hs⟩; exact hs.only Q2) ?_
  clear hs; rintro _ w ⟨b3, rfl, hb, hs⟩; clear hb
  replace hs := (Sat.boxow (l := ([] : List TFile)) (hs.sel (D := [box b3 _ _]) Q2) rfl rfl (by simp [maxLen]) (ownL_mk_flat (by simp)))
  refine WA.r (i := 6) Q6 Q0 Q0 (Yr.appendS (s := (⟨[], some ⟨b3, 0, none⟩, _⟩ : Sl TFile)) (F := [b3]) (r := d.files) hs elt110 Q2 Q0 Q0 (Ph.old (Sl.Ok.elem h_l hd).files hs) (by first | (rw [hql]; unfold maxLen; omega) | (simp; unfold maxLen; omega)) (by first | (rw [hql]; omega) | (simp; omega))) (by rintro _ w ⟨s4, F4, rfl, hl4, hs⟩; exact hs.only Q2) ?_
  clear hs; rintro _ w ⟨s4, F4, rfl, hl4, hs⟩
  refine WA.p (i := 7) Q0 Q6 Q6 Q6 Q0 (hs.only Q2) (fun w hs => Yl.build bt112 Q0 Q4) ?_
  refine WA.r (i := 8) Q6 Q0 Q0 (Yr.buildSlice hs sll56 Q0 Q0 Q0 Q4 Q0) (by rintro _ w ⟨b5, rfl, hb, hs⟩; exact hs.only Q2) ?_
  clear hs; rintro _ w ⟨b5, rfl, hb, hs⟩; clear hb
  replace hs := PServer.join (⟨d.host, s4⟩ : PServer) (hs.sel (D := [ow s4 F4]) Q2) (by first | exact (Ph.old (Sl.Ok.elem h_l hd).host hs) | (refine Ph.old ?_ hs; assumption))
  try simp only [List.cons_append, List.nil_append] at hs
  refine WA.r (i := 9) Q6 Q0 Q0 (Yr.appendE (s := q) (F := F) (u := (⟨d.host, s4⟩ : PServer)) (G := F4) hs elt56 Q2 Q0 Q0 (hs.box_cells Q1) (by first | (rw [hql]; unfold maxLen; omega) | (simp; unfold maxLen; omega)) (by first | (rw [hql]; omega) | (simp; omega))) (by rintro _ w ⟨s6, F6, rfl, hl6, hs⟩; exact hs.only Q2) ?_
  clear hs; rintro _ w ⟨s6, F6, rfl, hl6, hs⟩
  refine WA.p (i := 10) Q0 Q6 Q6 Q6 Q0 (hs.only Q2) (fun w hs => Yl.assign Q0) ?_
  refine WA.done Q6 ?_
  refine At.blocknormal ?_
  refine At.then_ ?_
  refine WC.region ?_
  refine WL.p Q0 (Yl.add Q0 Q0 Q7) ?_
  refine Qm ?_
  refine WL.nil ?_
  refine At.roundC (k + 1, s6, F6) (hs.only Q2) ⟨by rfl, by rfl, by rfl, by rfl, trivial⟩ ⟨by rfl, by rfl, trivial⟩ ?_ ?_
  ·
   show l.l.length - (k + 1) < l.l.length - k
   omega
  ·
   exact ⟨by omega, by rw [hl6, List.map_append, hJ2, List.take_add_one, hd]; simp [PServer.lg, *]⟩
 ·
  replace h1 := of_decide_eq_false h1
  refine WC.exit ?_
  refine At.thenexit ?_
  refine At.thenexit ?_
  refine At.blockexit ?_
  refine At.then_ ?_
  refine WC.seq ?_
  refine Qm ?_
  refine Qa ?_
  refine WL.next ?_
  refine WC.ret ?_
  refine fin1' rfl Q0 ?_
  refine Ret.mk hs ?_
  exact ⟨q, rfl, by rw [hJ2, show k = l.l.length from by omega, List.take_length], hs.fresh Q1⟩

theorem c_slices_IndexFunc___impl_Server_impl_Server_ (s : (Sl PServer)) (f : FuncId) (us_f : List Value) (p_f : PServer → Bool) (w : World) (h_s : Ph.ok w s)  (hfn_f : FN Tryd.prog f) (hf_f : ∀ x ∈ s.l, ∀ w', Below w.heap.size w w' → Calls Tryd.prog f (([.agg (Ph.enc x).toArray] : List Value) ++ us_f).toArray w' (RetP w' (Bo (p_f x)))) : Calls Tryd.prog 122 [Sl.v s, .func (.func f) #[] us_f.toArray].toArray w (RetP w (I (idxF (p_f) s.l 0))) := by
 have hw := h_s.lt
 refine enterN 19 Tryd.func122 rfl rfl rfl ?_
 have hs := Sat.start w
 refine WC.seq ?_
 refine Qa ?_
 refine WL.next ?_
 refine WC.seq' ?_
 refine WC.seq ?_
 refine Qm ?_
 refine WL.p Q0 (Yl.len_sl slu56 Q0) ?_
 refine Qm ?_
 refine WL.next ?_
 refine WC.block ?_
 refine WC.loopC (ι := Nat) (fun k => s.l.length - k) (fun k => [(8, I (k : Int))]) (fun _ => []) (fun k => idxF (p_f) s.l 0 = idxF (p_f) (s.l.drop k) k) [(0, _), (1, _), (7, _)] 0 (hs) ⟨by rfl, by rfl, by rfl, trivial⟩ ⟨by rfl, trivial⟩ ?_ ?_
 ·
  simp
 clear hs; rintro k w hJ hs
 simp only [List.nil_append] at hs
 refine WC.seq ?_
 refine WL.p Q0 (Yl.lss Q0 Q0) ?_
 refine WL.next ?_
 refine WC.seq' ?_
 refine WC.condS Q0 (fun h1 => ?_) (fun h1 => ?_)
 ·
  replace h1 := of_decide_eq_true h1
  obtain ⟨d, hd⟩ := exists_get (l := s.l) (k := k) Q7
  rw [drop_cons hd] at hJ
  refine WC.skipn ?_
  refine WC.seq' ?_
  refine WC.block ?_
  refine WC.seq ?_
  refine Qm ?_
  refine Qa ?_
  refine WL.next ?_
  refine WC.seq ?_
  refine Qm ?_
  refine Qm ?_
  refine Qm ?_
  refine WL.p Q0 (Yl.indexAddr slt56 Q0 Q0 (Ph.old h_s hs) Q0 (hd)) ?_
  refine WL.p Q0 (Yl.loadA agg112 Q0 (Sl.Ok.at_ (Ph.old h_s hs) (by assumption)).2 Q0) ?_
  refine WL.callp hs Q0 (Yc.value Q0 Q0 hfn_f Q0) (hf_f _ (List.mem_of_getElem? (by assumption)) _ hs.below) ?_
  clear hs; intro w hs
  refine WL.next ?_
  refine WC.condS Q0 (fun h2 => ?_) (fun h2 => ?_)
  ·
   refine WC.seq ?_
   refine Qm ?_
   refine Qa ?_
   refine WL.next ?_
   refine WC.ret ?_
   refine At.blockret ?_
   refine At.thenret ?_
   refine At.thenret ?_
   refine At.blockret ?_
   refine At.thenret ?_
   refine fin1' rfl Q0 ?_
   refine RetP.mk hs ?_
   rw [hJ]; simp_all [idxF]
  ·
   refine WC.skip ?_
   refine At.blocknormal ?_
   refine At.then_ ?_
   refine WC.region ?_
   refine WL.p Q0 (Yl.add Q0 Q0 Q7) ?_
   refine Qm ?_
   refine WL.nil ?_
   refine At.roundC (k + 1) (hs.only Q2) ⟨by rfl, by rfl, by rfl, trivial⟩ ⟨by rfl, trivial⟩ ?_ ?_
   ·
    omega
   ·
    rw [hJ]; simp_all [idxF]
 ·
  replace h1 := of_decide_eq_false h1
  rw [drop_out (l := s.l) Q7] at hJ
  refine WC.exit ?_
  refine At.thenexit ?_
  refine At.thenexit ?_
  refine At.blockexit ?_
  refine At.then_ ?_
  refine WC.seq ?_
  refine Qa ?_
  refine WL.next ?_
  refine WC.ret ?_
  refine fin1' rfl Q0 ?_
  refine RetP.mk hs ?_
  rw [hJ]; simp_all [idxF]

theorem c_impl_serverAt_1 (s : PServer) (host : Str) (b1 : Nat) (w : World) (h_s : Ph.ok w s)  (hc1 : CellsAt w b1 0 [S host]) : Calls Tryd.prog 123 [.agg #[S s.host, Sl.v s.files], bp b1 0].toArray w (RetP w (Bo (decide (s.host = host)))) := by
 refine enterN 8 Tryd.func123 rfl rfl rfl ?_
 have hs := Sat.start w
 refine WC.seq ?_
 refine WL.r Q0 (Yr.box hs Q0 Q0) ?_
 clear hs; rintro _ w ⟨b1, rfl, hb, hs⟩; clear hb
 refine Qa ?_
 refine WL.next ?_
 refine WC.seq ?_
 refine WL.p Q0 (Yl.fieldAddr fa112_0 Q0) ?_
 refine WL.p Q0 (Yl.loadB sca9 Q0 hs Q1 Q0) ?_
 refine WL.p Q0 (Yl.loadC0 sca9 Q0 (hc1.ext hs.below) Q0) ?_
 refine WL.p Q0 (Yl.eqs Q0 Q0) ?_
 refine Qa ?_
 refine WL.next ?_
 refine WC.ret ?_
 refine fin1' rfl Q0 ?_
 refine RetP.mk hs ?_
 rfl

theorem c_impl_serverAt (l : (Sl PServer)) (host : Str) (w : World) (h_l : Ph.ok w l)  : Calls Tryd.prog 87 [Sl.v l, S host].toArray w (RetP w (I (idxF (fun s : PServer => decide (s.host = host)) l.l 0))) := by
 have hw := h_l.lt
 refine enterN 8 Tryd.func87 rfl rfl rfl ?_
 have hs := Sat.start w
 refine WC.seq ?_
 refine WL.r Q0 (Yr.box hs Q0 Q0) ?_
 clear hs; rintro _ w ⟨b1, rfl, hb, hs⟩; clear hb
 refine Qa ?_
 refine WL.next ?_
 refine WC.seq ?_
 refine Qm ?_
 refine WL.p Q0 (Yl.makeFunc Q0 Q0) ?_
 refine WL.callp hs Q0 (Yc.func Q0 fn122) (c_slices_IndexFunc___impl_Server_impl_Server_ _ 123 _ (fun s : PServer => decide (s.host = host)) _ (Ph.old h_l hs) fn123 (fun x hx w1 hb1 => c_impl_serverAt_1 x _ _ w1 (Ph.ext hb1 ((Ph.old h_l hs).elems x hx)) ((hs.ext hb1).box_cells Q1))) ?_
 clear hs; intro w hs
 refine Qa ?_
 refine WL.next ?_
 refine WC.ret ?_
 refine fin1' rfl Q0 ?_
 refine RetP.mk hs ?_
 rfl

theorem c_slices_IndexFunc___impl_File_impl_File_ (s : (Sl TFile)) (f : FuncId) (us_f : List Value) (p_f : TFile → Bool) (w : World) (h_s : Ph.ok w s)  (hfn_f : FN Tryd.prog f) (hf_f : ∀ x ∈ s.l, ∀ w', Below w.heap.size w w' → Calls Tryd.prog f (([.agg (Ph.enc x).toArray] : List Value) ++ us_f).toArray w' (RetP w' (Bo (p_f x)))) : Calls Tryd.prog 124 [Sl.v s, .func (.func f) #[] us_f.toArray].toArray w (RetP w (I (idxF (p_f) s.l 0))) := by
 have hw := h_s.lt
 refine enterN 19 Tryd.func124 rfl rfl rfl ?_
 have hs := Sat.start w
 refine WC.seq ?_
 refine Qa ?_
 refine WL.next ?_
 refine WC.seq' ?_
 refine WC.seq ?_
 refine Qm ?_
 refine WL.p Q0 (Yl.len_sl slu110 Q0) ?_
 refine Qm ?_
 refine WL.next ?_
 refine WC.block ?_
 refine WC.loopC (ι := Nat) (fun k => s.l.length - k) (fun k => [(8, I (k : Int))]) (fun _ => []) (fun k => idxF (p_f) s.l 0 = idxF (p_f) (s.l.drop k) k) [(0, _), (1, _), (7, _)] 0 (hs) ⟨by rfl, by rfl, by rfl, trivial⟩ ⟨by rfl, trivial⟩ ?_ ?_
 ·
  simp
 clear hs; rintro k w hJ hs
 simp only [List.nil_append] at hs
 refine WC.seq ?_
 refine WL.p Q0 (Yl.lss Q0 Q0) ?_
 refine WL.next ?_
 refine WC.seq' ?_
 refine WC.condS Q0 (fun h1 => ?_) (fun h1 => ?_)
 ·
  replace h1 := of_decide_eq_true h1
  obtain ⟨d, hd⟩ := exists_get (l := s.l) (k := k) Q7
  rw [drop_cons hd] at hJ
  refine WC.skipn ?_
  refine WC.seq' ?_
  refine WC.block ?_
  refine WC.seq ?_
  refine Qm ?_
  refine Qa ?_
  refine WL.next ?_
  refine WC.seq ?_
  refine Qm ?_
  refine Qm ?_
  refine Qm ?_
  refine WL.p Q0 (Yl.indexAddr slt110 Q0 Q0 (Ph.old h_s hs) Q0 (hd)) ?_
  refine WL.p Q0 (Yl.loadA agg115 Q0 (Sl.Ok.at_ (Ph.old h_s hs) (by assumption)).2 Q0) ?_
  refine WL.callp hs Q0 (Yc.value Q0 Q0 hfn_f Q0) (hf_f _ (List.mem_of_getElem? (by assumption)) _ hs.below) ?_
  clear hs; intro w hs
  refine WL.next ?_
  refine WC.condS Q0 (fun h2 => ?_) (fun h2 => ?_)
  ·
   refine WC.seq ?_
   refine Qm ?_
   refine Qa ?_
   refine WL.next ?_
   refine WC.ret ?_
   refine At.blockret ?_
   refine At.thenret ?_
   refine At.thenret ?_
   refine At.blockret ?_
   refine At.thenret ?_
   refine fin1' rfl Q0 ?_
   refine RetP.mk hs ?_
   rw [hJ]; simp_all [idxF]
  ·
   refine WC.skip ?_
   refine At.blocknormal ?_
   refine At.then_ ?_
   refine WC.region ?_
   refine WL.p Q0 (Yl.add Q0 Q0 Q7) ?_
   refine Qm ?_
   refine WL.nil ?_
   refine At.roundC (k + 1) (hs.only Q2) ⟨by rfl, by rfl, by rfl, trivial⟩ ⟨by rfl, trivial⟩ ?_ ?_
   ·
    omega
   ·
    rw [hJ]; simp_all [idxF]
 ·
  replace h1 := of_decide_eq_false h1
  rw [drop_out (l := s.l) Q7] at hJ
  refine WC.exit ?_
  refine At.thenexit ?_
  refine At.thenexit ?_
  refine At.blockexit ?_
  refine At.then_ ?_
  refine WC.seq ?_
  refine Qa ?_
  refine WL.next ?_
  refine WC.ret ?_
  refine fin1' rfl Q0 ?_
  refine RetP.mk hs ?_
  rw [hJ]; simp_all [idxF]

theorem c_impl_fileAt_1 (f : TFile) (path : Str) (b1 : Nat) (w : World)   (hc1 : CellsAt w b1 0 [S path]) : Calls Tryd.prog 125 [.agg #[S f.path, I f.response.status, I f.response.kind, S f.response.body, I f.response.age, Bo f.response.shares, S f.response.policy], bp b1 0].toArray w (RetP w (Bo (decide (f.path = path)))) := by
 refine enterN 8 Tryd.func125 rfl rfl rfl ?_
 have hs := Sat.start w
 refine WC.seq ?_
 refine WL.r Q0 (Yr.box hs Q0 Q0) ?_
 clear hs; rintro _ w ⟨b1, rfl, hb, hs⟩; clear hb
 refine Qa ?_
 refine WL.next ?_
 refine WC.seq ?_
 refine WL.p Q0 (Yl.fieldAddr fa115_0 Q0) ?_
 refine WL.p Q0 (Yl.loadB sca9 Q0 hs Q1 Q0) ?_
 refine WL.p Q0 (Yl.loadC0 sca9 Q0 (hc1.ext hs.below) Q0) ?_
 refine WL.p Q0 (Yl.eqs Q0 Q0) ?_
 refine Qa ?_
 refine WL.next ?_
 refine WC.ret ?_
 refine fin1' rfl Q0 ?_
 refine RetP.mk hs ?_
 rfl

theorem c_impl_fileAt (s : PServer) (path : Str) (w : World) (h_s : Ph.ok w s)  : Calls Tryd.prog 88 [.agg #[S s.host, Sl.v s.files], S path].toArray w (RetP w (I (idxF (fun f : TFile => decide (f.path = path)) s.files.l 0))) := by
 have hw := h_s.files.lt
 refine enterN 9 Tryd.func88 rfl rfl rfl ?_
 have hs := Sat.start w
 refine WC.seq ?_
 refine WL.r Q0 (Yr.box hs Q0 Q0) ?_
 clear hs; rintro _ w ⟨b1, rfl, hb, hs⟩; clear hb
 refine WL.r Q0 (Yr.box hs Q0 Q0) ?_
 clear hs; rintro _ w ⟨b2, rfl, hb, hs⟩; clear hb
 refine Qa ?_
 refine WL.next ?_
 refine WC.seq ?_
 refine WL.p Q0 (Yl.fieldAddr fa112_1 Q0) ?_
 refine WL.p Q0 (Yl.loadB sca110 Q0 hs Q1 Q0) ?_
 refine WL.p Q0 (Yl.makeFunc Q0 Q0) ?_
 refine WL.callp hs Q0 (Yc.func Q0 fn124) (c_slices_IndexFunc___impl_File_impl_File_ _ 125 _ (fun f : TFile => decide (f.path = path)) _ (Ph.old h_s.files hs) fn125 (fun x hx w1 hb1 => c_impl_fileAt_1 x _ _ w1 ((hs.ext hb1).box_cells Q1))) ?_
 clear hs; intro w hs
 refine Qa ?_
 refine WL.next ?_
 refine WC.ret ?_
 refine fin1' rfl Q0 ?_
 refine RetP.mk hs ?_
 rfl

theorem c_slices_IndexFunc___string_string_ (s : (Sl Str)) (f : FuncId) (us_f : List Value) (p_f : Str → Bool) (w : World) (h_s : Ph.ok w s)  (hfn_f : FN Tryd.prog f) (hf_f : ∀ x ∈ s.l, ∀ w', Below w.heap.size w w' → Calls Tryd.prog f (([S x] : List Value) ++ us_f).toArray w' (RetP w' (Bo (p_f x)))) : Calls Tryd.prog 137 [Sl.v s, .func (.func f) #[] us_f.toArray].toArray w (RetP w (I (idxF (p_f) s.l 0))) := by
 have hw := h_s.lt
 refine enterN 19 Tryd.func137 rfl rfl rfl ?_
 have hs := Sat.start w
 refine WC.seq ?_
 refine Qa ?_
 refine WL.next ?_
 refine WC.seq' ?_
 refine WC.seq ?_
 refine Qm ?_
 refine WL.p Q0 (Yl.len_sl slu24 Q0) ?_
 refine Qm ?_
 refine WL.next ?_
 refine WC.block ?_
 refine WC.loopC (ι := Nat) (fun k => s.l.length - k) (fun k => [(8, I (k : Int))]) (fun _ => []) (fun k => idxF (p_f) s.l 0 = idxF (p_f) (s.l.drop k) k) [(0, _), (1, _), (7, _)] 0 (hs) ⟨by rfl, by rfl, by rfl, trivial⟩ ⟨by rfl, trivial⟩ ?_ ?_
 ·
  simp
 clear hs; rintro k w hJ hs
 simp only [List.nil_append] at hs
 refine WC.seq ?_
 refine WL.p Q0 (Yl.lss Q0 Q0) ?_
 refine WL.next ?_
 refine WC.seq' ?_
 refine WC.condS Q0 (fun h1 => ?_) (fun h1 => ?_)
 ·
  replace h1 := of_decide_eq_true h1
  obtain ⟨d, hd⟩ := exists_get (l := s.l) (k := k) Q7
  rw [drop_cons hd] at hJ
  refine WC.skipn ?_
  refine WC.seq' ?_
  refine WC.block ?_
  refine WC.seq ?_
  refine Qm ?_
  refine Qa ?_
  refine WL.next ?_
  refine WC.seq ?_
  refine Qm ?_
  refine Qm ?_
  refine Qm ?_
  refine WL.p Q0 (Yl.indexAddr slt24 Q0 Q0 (Ph.old h_s hs) Q0 (hd)) ?_
  refine WL.p Q0 (Yl.loadC0 sca9 Q0 (Sl.Ok.at_ (Ph.old h_s hs) (by assumption)).2 Q0) ?_
  refine WL.callp hs Q0 (Yc.value Q0 Q0 hfn_f Q0) (hf_f _ (List.mem_of_getElem? (by assumption)) _ hs.below) ?_
  clear hs; intro w hs
  refine WL.next ?_
  refine WC.condS Q0 (fun h2 => ?_) (fun h2 => ?_)
  ·
   refine WC.seq ?_
   refine Qm ?_
   refine Qa ?_
   refine WL.next ?_
   refine WC.ret ?_
   refine At.blockret ?_
   refine At.thenret ?_
   refine At.thenret ?_
   refine At.blockret ?_
   refine At.thenret ?_
   refine fin1' rfl Q0 ?_
   refine RetP.mk hs ?_
   rw [hJ]; simp_all [idxF]
  ·
   refine WC.skip ?_
   refine At.blocknormal ?_
   refine At.then_ ?_
   refine WC.region ?_
   refine WL.p Q0 (Yl.add Q0 Q0 Q7) ?_
   refine Qm ?_
   refine WL.nil ?_
   refine At.roundC (k + 1) (hs.only Q2) ⟨by rfl, by rfl, by rfl, trivial⟩ ⟨by rfl, trivial⟩ ?_ ?_
   ·
    omega
   ·
    rw [hJ]; simp_all [idxF]
 ·
  replace h1 := of_decide_eq_false h1
  rw [drop_out (l := s.l) Q7] at hJ
  refine WC.exit ?_
  refine At.thenexit ?_
  refine At.thenexit ?_
  refine At.blockexit ?_
  refine At.then_ ?_
  refine WC.seq ?_
  refine Qa ?_
  refine WL.next ?_
  refine WC.ret ?_
  refine fin1' rfl Q0 ?_
  refine RetP.mk hs ?_
  rw [hJ]; simp_all [idxF]

theorem c_slices_ContainsFunc___string_string_ (s : (Sl Str)) (f : FuncId) (us_f : List Value) (p_f : Str → Bool) (w : World) (h_s : Ph.ok w s)  (hfn_f : FN Tryd.prog f) (hf_f : ∀ x ∈ s.l, ∀ w', Below w.heap.size w w' → Calls Tryd.prog f (([S x] : List Value) ++ us_f).toArray w' (RetP w' (Bo (p_f x)))) : Calls Tryd.prog 110 [Sl.v s, .func (.func f) #[] us_f.toArray].toArray w (RetP w (Bo (s.l.any p_f))) := by
 refine enterN 9 Tryd.func110 rfl rfl rfl ?_
 have hs := Sat.start w
 refine WC.seq ?_
 refine Qa ?_
 refine WL.next ?_
 refine WC.seq ?_
 refine Qm ?_
 refine Qm ?_
 refine WL.callp hs Q0 (Yc.func Q0 fn137) (c_slices_IndexFunc___string_string_ _ _ _ p_f _ (Ph.old h_s hs) hfn_f (fun x hx w1 hb1 => hf_f x hx w1 (hs.ext hb1).below)) ?_
 clear hs; intro w hs
 refine WL.p Q0 (Yl.geq Q0 Q0) ?_
 refine Qa ?_
 refine WL.next ?_
 refine WC.ret ?_
 refine fin1' rfl Q0 ?_
 refine RetP.mk hs ?_
 simp only [ge_iff_le, idxF_any]

theorem c_impl_InRange (n : Int) (low : Int) (high : Int) (w : World)   : Calls Tryd.prog 73 [I n, I low, I high].toArray w (RetP w (Bo (inR n low high))) := by
 refine enterN 15 Tryd.func73 rfl rfl rfl ?_
 have hs := Sat.start w
 refine WC.seq ?_
 refine Qa ?_
 refine WL.next ?_
 refine WC.seq ?_
 refine Qm ?_
 refine Qm ?_
 refine WL.p Q0 (Yl.leq Q0 Q0) ?_
 refine Qm ?_
 refine WL.split (d := 10) Q0 (fun h1 => ?_) (fun h1 => ?_)
 ·
  replace h1 := of_decide_eq_true h1
  refine WL.run (d := 10) Q0 Q0 ?_
  refine Qm ?_
  refine WL.run (d := 10) Q0 Q0 ?_
  refine Qm ?_
  refine WL.run (d := 10) Q0 Q0 ?_
  refine WL.p Q0 (Yl.leq Q0 Q0) ?_
  refine WL.p Q0 (Yl.pickT Q0 Q0) ?_
  refine Qa ?_
  refine WL.next ?_
  refine WC.ret ?_
  refine fin1' rfl Q0 ?_
  refine RetP.mk hs ?_
  simp [inR, h1]
 ·
  replace h1 := of_decide_eq_false h1
  refine WL.skip (d := 10) Q0 Q0 Q0 Q0 ?_
  refine WL.skip (d := 10) Q0 Q0 Q0 Q0 ?_
  refine WL.skip (d := 10) Q0 Q0 Q0 Q0 ?_
  refine WL.p Q0 (Yl.pickF Q0 Q0) ?_
  refine Qa ?_
  refine WL.next ?_
  refine WC.ret ?_
  refine fin1' rfl Q0 ?_
  refine RetP.mk hs ?_
  rw [inR_false.2 Q7]

theorem c_impl_IsName (s : Str) (w : World) (h_s : Ph.ok w s)  : Calls Tryd.prog 83 [S s].toArray w (RetP w (Bo (isName s))) := by
 have hw : s.length ≤ 9223372036854775807 := h_s
 refine enterN 23 Tryd.func83 rfl rfl rfl ?_
 have hs := Sat.start w
 refine WC.seq ?_
 refine Qa ?_
 refine WL.next ?_
 refine WC.seq' ?_
 refine WC.seq ?_
 refine Qa ?_
 refine WL.next ?_
 refine WC.block ?_
 refine WC.loopC (ι := Nat) (fun k => s.length - k) (fun k => [(3, I (k : Int))]) (fun _ => []) (fun k => s.all lower = (s.drop k).all lower) [(0, _)] 0 (hs) ⟨by rfl, trivial⟩ ⟨by rfl, trivial⟩ ?_ ?_
 ·
  simp
 clear hs; rintro k w hJ hs
 simp only [List.nil_append] at hs
 refine WC.seq' ?_
 refine WC.seq ?_
 refine Qm ?_
 refine Qm ?_
 refine WL.p Q0 (Yl.len_str str9 Q0) ?_
 refine WL.p Q0 (Yl.lss Q0 Q0) ?_
 refine WL.next ?_
 refine WC.condS Q0 (fun h1 => ?_) (fun h1 => ?_)
 ·
  replace h1 := of_decide_eq_true h1
  obtain ⟨d, hd⟩ := exists_get (l := s) (k := k) Q7
  rw [drop_cons hd] at hJ
  refine WC.skipn ?_
  refine WC.seq' ?_
  refine WC.block ?_
  refine WC.seq ?_
  refine Qm ?_
  refine Qm ?_
  refine WL.p Q0 (Yl.index str9 Q0 Q0 Q0 (by first | assumption | exact List.getElem?_eq_getElem Q7)) ?_
  refine WL.p Q0 (Yl.lss Q0 Q0) ?_
  refine Qm ?_
  refine WL.split (d := 14) Q0 (fun h2 => ?_) (fun h2 => ?_)
  ·
   replace h2 := of_decide_eq_true h2
   refine WL.skip (d := 14) Q0 Q0 Q0 Q0 ?_
   refine WL.skip (d := 14) Q0 Q0 Q0 Q0 ?_
   refine WL.skip (d := 14) Q0 Q0 Q0 Q0 ?_
   refine WL.skip (d := 14) Q0 Q0 Q0 Q0 ?_
   refine WL.p Q0 (Yl.pickT Q0 Q0) ?_
   refine WL.next ?_
   refine WC.condT Q0 ?_
   refine WC.seq ?_
   refine Qa ?_
   refine WL.next ?_
   refine WC.ret ?_
   refine At.blockret ?_
   refine At.thenret ?_
   refine At.thenret ?_
   refine At.blockret ?_
   refine At.thenret ?_
   refine fin1' rfl Q0 ?_
   refine RetP.mk hs ?_
   first
    | (simp [isName, hJ, lower]; done)
    | (simp [isName, hJ, lower]; omega)
    | simp_all [isName, hJ, lower]
  ·
   replace h2 := of_decide_eq_false h2
   refine WL.run (d := 14) Q0 Q0 ?_
   refine Qm ?_
   refine WL.run (d := 14) Q0 Q0 ?_
   refine Qm ?_
   refine WL.run (d := 14) Q0 Q0 ?_
   refine WL.p Q0 (Yl.index str9 Q0 Q0 Q0 (by first | assumption | exact List.getElem?_eq_getElem Q7)) ?_
   refine WL.run (d := 14) Q0 Q0 ?_
   refine WL.p Q0 (Yl.gtr Q0 Q0) ?_
   refine WL.p Q0 (Yl.pickF Q0 Q0) ?_
   refine WL.next ?_
   refine WC.condS Q0 (fun h3 => ?_) (fun h3 => ?_)
   ·
    replace h3 := of_decide_eq_true h3
    refine WC.seq ?_
    refine Qa ?_
    refine WL.next ?_
    refine WC.ret ?_
    refine At.blockret ?_
    refine At.thenret ?_
    refine At.thenret ?_
    refine At.blockret ?_
    refine At.thenret ?_
    refine fin1' rfl Q0 ?_
    refine RetP.mk hs ?_
    first
     | (simp [isName, hJ, lower]; done)
     | (simp [isName, hJ, lower]; omega)
     | simp_all [isName, hJ, lower]
   ·
    replace h3 := of_decide_eq_false h3
    refine WC.skip ?_
    refine At.blocknormal ?_
    refine At.then_ ?_
    refine WC.region ?_
    refine Qm ?_
    refine WL.p Q0 (Yl.add Q0 Q0 Q7) ?_
    refine Qa ?_
    refine WL.nil ?_
    refine At.roundC (k + 1) (hs.only Q2) ⟨by rfl, trivial⟩ ⟨by rfl, trivial⟩ ?_ ?_
    ·
     omega
    ·
     rw [hJ]; simp [lower]; omega
 ·
  replace h1 := of_decide_eq_false h1
  rw [drop_out (l := s) Q7] at hJ
  refine WC.exit ?_
  refine At.thenexit ?_
  refine At.thenexit ?_
  refine At.blockexit ?_
  refine At.then_ ?_
  refine WC.seq ?_
  refine Qm ?_
  refine WL.p Q0 (Yl.len_str str9 Q0) ?_
  refine WL.callp hs Q0 (Yc.func Q0 fn73) (c_impl_InRange _ _ _ _) ?_
  clear hs; intro w hs
  refine Qa ?_
  refine WL.next ?_
  refine WC.ret ?_
  refine fin1' rfl Q0 ?_
  refine RetP.mk hs ?_
  first
   | (simp [isName, hJ, lower]; done)
   | (simp [isName, hJ, lower]; omega)
   | simp_all [isName, hJ, lower]

theorem c_impl_areHosts_1 (s : Str) (w : World) (h_s : Ph.ok w s)  : Calls Tryd.prog 111 [S s].toArray w (RetP w (Bo (!isName s))) := by
 refine enterN 6 Tryd.func111 rfl rfl rfl ?_
 have hs := Sat.start w
 refine WC.seq ?_
 refine Qa ?_
 refine WL.next ?_
 refine WC.seq ?_
 refine Qm ?_
 refine WL.callp hs Q0 (Yc.func Q0 fn83) (c_impl_IsName _ _ (Ph.old h_s hs)) ?_
 clear hs; intro w hs
 refine WL.p Q0 (Yl.not Q0) ?_
 refine Qa ?_
 refine WL.next ?_
 refine WC.ret ?_
 refine fin1' rfl Q0 ?_
 refine RetP.mk hs ?_
 simp_all

theorem c_impl_areHosts (l : (Sl Str)) (w : World) (h_l : Ph.ok w l)  : Calls Tryd.prog 54 [Sl.v l].toArray w (RetP w (Bo (hosts l.l))) := by
 have hw := h_l.lt
 refine enterN 11 Tryd.func54 rfl rfl rfl ?_
 have hs := Sat.start w
 refine WC.seq ?_
 refine Qa ?_
 refine WL.next ?_
 refine WC.seq ?_
 refine Qm ?_
 refine WL.p Q0 (Yl.len_sl slu24 Q0) ?_
 refine WL.p Q0 (Yl.leq Q0 Q0) ?_
 refine Qm ?_
 refine WL.split (d := 6) Q0 (fun h1 => ?_) (fun h1 => ?_)
 ·
  replace h1 := of_decide_eq_true h1
  refine WL.run (d := 6) Q0 Q0 ?_
  refine Qm ?_
  refine WL.run (d := 6) Q0 Q0 ?_
  refine WL.callp hs Q0 (Yc.func Q0 fn110) (c_slices_ContainsFunc___string_string_ _ 111 _ (fun x => !isName x) _ (Ph.old h_l hs) fn111 (fun x hx w1 hb1 => c_impl_areHosts_1 x w1 (Ph.ext hb1 ((Ph.old h_l hs).elems x hx)))) ?_
  clear hs; intro w hs
  refine WL.run (d := 6) Q0 Q0 ?_
  refine WL.p Q0 (Yl.not Q0) ?_
  refine WL.p Q0 (Yl.pickT Q0 Q0) ?_
  refine Qa ?_
  refine WL.next ?_
  refine WC.ret ?_
  refine fin1' rfl Q0 ?_
  refine RetP.mk hs ?_
  rw [any_not_all]
  simp [hosts]; omega
 ·
  replace h1 := of_decide_eq_false h1
  refine WL.skip (d := 6) Q0 Q0 Q0 Q0 ?_
  refine WL.skip (d := 6) Q0 Q0 Q0 Q0 ?_
  refine WL.skip (d := 6) Q0 Q0 Q0 Q0 ?_
  refine WL.p Q0 (Yl.pickF Q0 Q0) ?_
  refine Qa ?_
  refine WL.next ?_
  refine WC.ret ?_
  refine fin1' rfl Q0 ?_
  refine RetP.mk hs ?_
  simp [hosts]; omega

theorem c_impl_IsValue (s : Str) (w : World) (h_s : Ph.ok w s)  : Calls Tryd.prog 55 [S s].toArray w (RetP w (Bo (isValue s))) := by
 have hw : s.length ≤ 9223372036854775807 := h_s
 refine enterN 42 Tryd.func55 rfl rfl rfl ?_
 have hs := Sat.start w
 refine WC.seq ?_
 refine Qa ?_
 refine WL.next ?_
 refine WC.seq' ?_
 refine WC.seq ?_
 refine Qa ?_
 refine WL.next ?_
 refine WC.block ?_
 refine WC.loopC (ι := Nat) (fun k => s.length - k) (fun k => [(3, I (k : Int))]) (fun _ => []) (fun k => s.all valueByte = (s.drop k).all valueByte) [(0, _)] 0 (hs) ⟨by rfl, trivial⟩ ⟨by rfl, trivial⟩ ?_ ?_
 ·
  simp
 clear hs; rintro k w hJ hs
 simp only [List.nil_append] at hs
 refine WC.seq' ?_
 refine WC.seq ?_
 refine Qm ?_
 refine Qm ?_
 refine WL.p Q0 (Yl.len_str str9 Q0) ?_
 refine WL.p Q0 (Yl.lss Q0 Q0) ?_
 refine WL.next ?_
 refine WC.condS Q0 (fun h1 => ?_) (fun h1 => ?_)
 ·
  replace h1 := of_decide_eq_true h1
  obtain ⟨d, hd⟩ := exists_get (l := s) (k := k) Q7
  rw [drop_cons hd] at hJ
  refine WC.skipn ?_
  refine WC.seq' ?_
  refine WC.block ?_
  refine WC.seq ?_
  refine Qm ?_
  refine Qm ?_
  refine WL.p Q0 (Yl.index str9 Q0 Q0 Q0 (by first | assumption | exact List.getElem?_eq_getElem Q7)) ?_
  refine WL.p Q0 (Yl.geq Q0 Q0) ?_
  refine Qm ?_
  refine WL.split (d := 14) Q0 (fun h2 => ?_) (fun h2 => ?_)
  ·
   replace h2 := of_decide_eq_true h2
   refine WL.run (d := 14) Q0 Q0 ?_
   refine Qm ?_
   refine WL.run (d := 14) Q0 Q0 ?_
   refine Qm ?_
   refine WL.run (d := 14) Q0 Q0 ?_
   refine WL.p Q0 (Yl.index str9 Q0 Q0 Q0 (by first | assumption | exact List.getElem?_eq_getElem Q7)) ?_
   refine WL.run (d := 14) Q0 Q0 ?_
   refine WL.p Q0 (Yl.leq Q0 Q0) ?_
   refine WL.p Q0 (Yl.pickT Q0 Q0) ?_
   refine Qm ?_
   refine WL.split (d := 20) Q0 (fun h3 => ?_) (fun h3 => ?_)
   ·
    replace h3 := of_decide_eq_true h3
    refine WL.skip (d := 20) Q0 Q0 Q0 Q0 ?_
    refine WL.skip (d := 20) Q0 Q0 Q0 Q0 ?_
    refine WL.skip (d := 20) Q0 Q0 Q0 Q0 ?_
    refine WL.skip (d := 20) Q0 Q0 Q0 Q0 ?_
    refine WL.skip (d := 20) Q0 Q0 Q0 Q0 ?_
    refine WL.skipU (d := 25) Q0 Q0 Q0 ?_
    refine WL.skipU (d := 25) Q0 Q0 Q0 ?_
    refine WL.skipU (d := 25) Q0 Q0 Q0 ?_
    refine WL.skipU (d := 25) Q0 Q0 Q0 ?_
    refine WL.skip (d := 20) Q0 Q0 Q0 Q0 ?_
    refine WL.p Q0 (Yl.pickT Q0 Q0) ?_
    refine Qm ?_
    refine WL.skip (d := 32) Q0 Q0 Q0 Q0 ?_
    refine WL.skip (d := 32) Q0 Q0 Q0 Q0 ?_
    refine WL.skip (d := 32) Q0 Q0 Q0 Q0 ?_
    refine WL.skip (d := 32) Q0 Q0 Q0 Q0 ?_
    refine WL.p Q0 (Yl.pickT Q0 Q0) ?_
    refine WL.p Q0 (Yl.not Q0) ?_
    refine WL.next ?_
    refine WC.condF Q0 ?_
    refine WC.skip ?_
    refine At.blocknormal ?_
    refine At.then_ ?_
    refine WC.region ?_
    refine Qm ?_
    refine WL.p Q0 (Yl.add Q0 Q0 Q7) ?_
    refine Qa ?_
    refine WL.nil ?_
    refine At.roundC (k + 1) (hs.only Q2) ⟨by rfl, trivial⟩ ⟨by rfl, trivial⟩ ?_ ?_
    ·
     omega
    ·
     rw [hJ]; simp [valueByte, lower, digit]; omega
   ·
    replace h3 := of_decide_eq_false h3
    refine WL.run (d := 20) Q0 Q0 ?_
    refine Qm ?_
    refine WL.run (d := 20) Q0 Q0 ?_
    refine Qm ?_
    refine WL.run (d := 20) Q0 Q0 ?_
    refine WL.p Q0 (Yl.index str9 Q0 Q0 Q0 (by first | assumption | exact List.getElem?_eq_getElem Q7)) ?_
    refine WL.run (d := 20) Q0 Q0 ?_
    refine WL.p Q0 (Yl.geq Q0 Q0) ?_
    refine WL.run (d := 20) Q0 Q0 ?_
    refine Qm ?_
    refine WL.split (d := 25) Q0 (fun h4 => ?_) (fun h4 => ?_)
    ·
     replace h4 := of_decide_eq_true h4
     refine WL.run (d := 25) Q0 Q0 ?_
     refine Qm ?_
     refine WL.run (d := 25) Q0 Q0 ?_
     refine Qm ?_
     refine WL.run (d := 25) Q0 Q0 ?_
     refine WL.p Q0 (Yl.index str9 Q0 Q0 Q0 (by first | assumption | exact List.getElem?_eq_getElem Q7)) ?_
     refine WL.run (d := 25) Q0 Q0 ?_
     refine WL.p Q0 (Yl.leq Q0 Q0) ?_
     refine WL.run (d := 20) Q0 Q0 ?_
     refine WL.p Q0 (Yl.pickT Q0 Q0) ?_
     refine WL.p Q0 (Yl.pickF Q0 Q0) ?_
     refine Qm ?_
     refine WL.split (d := 32) Q0 (fun h5 => ?_) (fun h5 => ?_)
     ·
      replace h5 := of_decide_eq_true h5
      refine WL.skip (d := 32) Q0 Q0 Q0 Q0 ?_
      refine WL.skip (d := 32) Q0 Q0 Q0 Q0 ?_
      refine WL.skip (d := 32) Q0 Q0 Q0 Q0 ?_
      refine WL.skip (d := 32) Q0 Q0 Q0 Q0 ?_
      refine WL.p Q0 (Yl.pickT Q0 Q0) ?_
      refine WL.p Q0 (Yl.not Q0) ?_
      refine WL.next ?_
      refine WC.condF Q0 ?_
      refine WC.skip ?_
      refine At.blocknormal ?_
      refine At.then_ ?_
      refine WC.region ?_
      refine Qm ?_
      refine WL.p Q0 (Yl.add Q0 Q0 Q7) ?_
      refine Qa ?_
      refine WL.nil ?_
      refine At.roundC (k + 1) (hs.only Q2) ⟨by rfl, trivial⟩ ⟨by rfl, trivial⟩ ?_ ?_
      ·
       omega
      ·
       rw [hJ]; simp [valueByte, lower, digit]; omega
     ·
      replace h5 := of_decide_eq_false h5
      refine WL.run (d := 32) Q0 Q0 ?_
      refine Qm ?_
      refine WL.run (d := 32) Q0 Q0 ?_
      refine Qm ?_
      refine WL.run (d := 32) Q0 Q0 ?_
      refine WL.p Q0 (Yl.index str9 Q0 Q0 Q0 (by first | assumption | exact List.getElem?_eq_getElem Q7)) ?_
      refine WL.run (d := 32) Q0 Q0 ?_
      refine WL.p Q0 (Yl.eqi Q0 Q0) ?_
      refine WL.p Q0 (Yl.pickF Q0 Q0) ?_
      refine WL.p Q0 (Yl.not Q0) ?_
      refine WL.next ?_
      refine WC.condS Q0 (fun h6 => ?_) (fun h6 => ?_)
      ·
       replace h6 := not_eq_true h6
       replace h6 := of_decide_eq_false h6
       refine WC.seq ?_
       refine Qa ?_
       refine WL.next ?_
       refine WC.ret ?_
       refine At.blockret ?_
       refine At.thenret ?_
       refine At.thenret ?_
       refine At.blockret ?_
       refine At.thenret ?_
       refine fin1' rfl Q0 ?_
       refine RetP.mk hs ?_
       first
        | (simp [isValue, hJ, valueByte, lower, digit]; done)
        | (simp [isValue, hJ, valueByte, lower, digit]; omega)
        | simp_all [isValue, hJ, valueByte, lower, digit]
      ·
       replace h6 := not_eq_false h6
       replace h6 := of_decide_eq_true h6
       refine WC.skip ?_
       refine At.blocknormal ?_
       refine At.then_ ?_
       refine WC.region ?_
       refine Qm ?_
       refine WL.p Q0 (Yl.add Q0 Q0 Q7) ?_
       refine Qa ?_
       refine WL.nil ?_
       refine At.roundC (k + 1) (hs.only Q2) ⟨by rfl, trivial⟩ ⟨by rfl, trivial⟩ ?_ ?_
       ·
        omega
       ·
        rw [hJ]; simp [valueByte, lower, digit]; omega
    ·
     replace h4 := of_decide_eq_false h4
     refine WL.skip (d := 25) Q0 Q0 Q0 Q0 ?_
     refine WL.skip (d := 25) Q0 Q0 Q0 Q0 ?_
     refine WL.skip (d := 25) Q0 Q0 Q0 Q0 ?_
     refine WL.skip (d := 25) Q0 Q0 Q0 Q0 ?_
     refine WL.run (d := 20) Q0 Q0 ?_
     refine WL.p Q0 (Yl.pickF Q0 Q0) ?_
     refine WL.p Q0 (Yl.pickF Q0 Q0) ?_
     refine Qm ?_
     refine WL.run (d := 32) Q0 Q0 ?_
     refine Qm ?_
     refine WL.run (d := 32) Q0 Q0 ?_
     refine Qm ?_
     refine WL.run (d := 32) Q0 Q0 ?_
     refine WL.p Q0 (Yl.index str9 Q0 Q0 Q0 (by first | assumption | exact List.getElem?_eq_getElem Q7)) ?_
     refine WL.run (d := 32) Q0 Q0 ?_
     refine WL.p Q0 (Yl.eqi Q0 Q0) ?_
     refine WL.p Q0 (Yl.pickF Q0 Q0) ?_
     refine WL.p Q0 (Yl.not Q0) ?_
     refine WL.next ?_
     refine WC.condS Q0 (fun h5 => ?_) (fun h5 => ?_)
     ·
      replace h5 := not_eq_true h5
      replace h5 := of_decide_eq_false h5
      refine WC.seq ?_
      refine Qa ?_
      refine WL.next ?_
      refine WC.ret ?_
      refine At.blockret ?_
      refine At.thenret ?_
      refine At.thenret ?_
      refine At.blockret ?_
      refine At.thenret ?_
      refine fin1' rfl Q0 ?_
      refine RetP.mk hs ?_
      first
       | (simp [isValue, hJ, valueByte, lower, digit]; done)
       | (simp [isValue, hJ, valueByte, lower, digit]; omega)
       | simp_all [isValue, hJ, valueByte, lower, digit]
     ·
      replace h5 := not_eq_false h5
      replace h5 := of_decide_eq_true h5
      refine WC.skip ?_
      refine At.blocknormal ?_
      refine At.then_ ?_
      refine WC.region ?_
      refine Qm ?_
      refine WL.p Q0 (Yl.add Q0 Q0 Q7) ?_
      refine Qa ?_
      refine WL.nil ?_
      refine At.roundC (k + 1) (hs.only Q2) ⟨by rfl, trivial⟩ ⟨by rfl, trivial⟩ ?_ ?_
      ·
       omega
      ·
       rw [hJ]; simp [valueByte, lower, digit]; omega
  ·
   replace h2 := of_decide_eq_false h2
   refine WL.skip (d := 14) Q0 Q0 Q0 Q0 ?_
   refine WL.skip (d := 14) Q0 Q0 Q0 Q0 ?_
   refine WL.skip (d := 14) Q0 Q0 Q0 Q0 ?_
   refine WL.skip (d := 14) Q0 Q0 Q0 Q0 ?_
   refine WL.p Q0 (Yl.pickF Q0 Q0) ?_
   refine Qm ?_
   refine WL.run (d := 20) Q0 Q0 ?_
   refine Qm ?_
   refine WL.run (d := 20) Q0 Q0 ?_
   refine Qm ?_
   refine WL.run (d := 20) Q0 Q0 ?_
   refine WL.p Q0 (Yl.index str9 Q0 Q0 Q0 (by first | assumption | exact List.getElem?_eq_getElem Q7)) ?_
   refine WL.run (d := 20) Q0 Q0 ?_
   refine WL.p Q0 (Yl.geq Q0 Q0) ?_
   refine WL.run (d := 20) Q0 Q0 ?_
   refine Qm ?_
   refine WL.split (d := 25) Q0 (fun h3 => ?_) (fun h3 => ?_)
   ·
    replace h3 := of_decide_eq_true h3
    refine WL.run (d := 25) Q0 Q0 ?_
    refine Qm ?_
    refine WL.run (d := 25) Q0 Q0 ?_
    refine Qm ?_
    refine WL.run (d := 25) Q0 Q0 ?_
    refine WL.p Q0 (Yl.index str9 Q0 Q0 Q0 (by first | assumption | exact List.getElem?_eq_getElem Q7)) ?_
    refine WL.run (d := 25) Q0 Q0 ?_
    refine WL.p Q0 (Yl.leq Q0 Q0) ?_
    refine WL.run (d := 20) Q0 Q0 ?_
    refine WL.p Q0 (Yl.pickT Q0 Q0) ?_
    refine WL.p Q0 (Yl.pickF Q0 Q0) ?_
    refine Qm ?_
    refine WL.split (d := 32) Q0 (fun h4 => ?_) (fun h4 => ?_)
    ·
     replace h4 := of_decide_eq_true h4
     refine WL.skip (d := 32) Q0 Q0 Q0 Q0 ?_
     refine WL.skip (d := 32) Q0 Q0 Q0 Q0 ?_
     refine WL.skip (d := 32) Q0 Q0 Q0 Q0 ?_
     refine WL.skip (d := 32) Q0 Q0 Q0 Q0 ?_
     refine WL.p Q0 (Yl.pickT Q0 Q0) ?_
     refine WL.p Q0 (Yl.not Q0) ?_
     refine WL.next ?_
     refine WC.condF Q0 ?_
     refine WC.skip ?_
     refine At.blocknormal ?_
     refine At.then_ ?_
     refine WC.region ?_
     refine Qm ?_
     refine WL.p Q0 (Yl.add Q0 Q0 Q7) ?_
     refine Qa ?_
     refine WL.nil ?_
     refine At.roundC (k + 1) (hs.only Q2) ⟨by rfl, trivial⟩ ⟨by rfl, trivial⟩ ?_ ?_
     ·
      omega
     ·
      rw [hJ]; simp [valueByte, lower, digit]; omega
    ·
     replace h4 := of_decide_eq_false h4
     refine WL.run (d := 32) Q0 Q0 ?_
     refine Qm ?_
     refine WL.run (d := 32) Q0 Q0 ?_
     refine Qm ?_
     refine WL.run (d := 32) Q0 Q0 ?_
     refine WL.p Q0 (Yl.index str9 Q0 Q0 Q0 (by first | assumption | exact List.getElem?_eq_getElem Q7)) ?_
     refine WL.run (d := 32) Q0 Q0 ?_
     refine WL.p Q0 (Yl.eqi Q0 Q0) ?_
     refine WL.p Q0 (Yl.pickF Q0 Q0) ?_
     refine WL.p Q0 (Yl.not Q0) ?_
     refine WL.next ?_
     refine WC.condS Q0 (fun h5 => ?_) (fun h5 => ?_)
     ·
      replace h5 := not_eq_true h5
      replace h5 := of_decide_eq_false h5
      refine WC.seq ?_
      refine Qa ?_
      refine WL.next ?_
      refine WC.ret ?_
      refine At.blockret ?_
      refine At.thenret ?_
      refine At.thenret ?_
      refine At.blockret ?_
      refine At.thenret ?_
      refine fin1' rfl Q0 ?_
      refine RetP.mk hs ?_
      first
       | (simp [isValue, hJ, valueByte, lower, digit]; done)
       | (simp [isValue, hJ, valueByte, lower, digit]; omega)
       | simp_all [isValue, hJ, valueByte, lower, digit]
     ·
      replace h5 := not_eq_false h5
      replace h5 := of_decide_eq_true h5
      refine WC.skip ?_
      refine At.blocknormal ?_
      refine At.then_ ?_
      refine WC.region ?_
      refine Qm ?_
      refine WL.p Q0 (Yl.add Q0 Q0 Q7) ?_
      refine Qa ?_
      refine WL.nil ?_
      refine At.roundC (k + 1) (hs.only Q2) ⟨by rfl, trivial⟩ ⟨by rfl, trivial⟩ ?_ ?_
      ·
       omega
      ·
       rw [hJ]; simp [valueByte, lower, digit]; omega
   ·
    replace h3 := of_decide_eq_false h3
    refine WL.skip (d := 25) Q0 Q0 Q0 Q0 ?_
    refine WL.skip (d := 25) Q0 Q0 Q0 Q0 ?_
    refine WL.skip (d := 25) Q0 Q0 Q0 Q0 ?_
    refine WL.skip (d := 25) Q0 Q0 Q0 Q0 ?_
    refine WL.run (d := 20) Q0 Q0 ?_
    refine WL.p Q0 (Yl.pickF Q0 Q0) ?_
    refine WL.p Q0 (Yl.pickF Q0 Q0) ?_
    refine Qm ?_
    refine WL.run (d := 32) Q0 Q0 ?_
    refine Qm ?_
    refine WL.run (d := 32) Q0 Q0 ?_
    refine Qm ?_
    refine WL.run (d := 32) Q0 Q0 ?_
    refine WL.p Q0 (Yl.index str9 Q0 Q0 Q0 (by first | assumption | exact List.getElem?_eq_getElem Q7)) ?_
    refine WL.run (d := 32) Q0 Q0 ?_
    refine WL.p Q0 (Yl.eqi Q0 Q0) ?_
    refine WL.p Q0 (Yl.pickF Q0 Q0) ?_
    refine WL.p Q0 (Yl.not Q0) ?_
    refine WL.next ?_
    refine WC.condS Q0 (fun h4 => ?_) (fun h4 => ?_)
    ·
     replace h4 := not_eq_true h4
     replace h4 := of_decide_eq_false h4
     refine WC.seq ?_
     refine Qa ?_
     refine WL.next ?_
     refine WC.ret ?_
     refine At.blockret ?_
     refine At.thenret ?_
     refine At.thenret ?_
     refine At.blockret ?_
     refine At.thenret ?_
     refine fin1' rfl Q0 ?_
     refine RetP.mk hs ?_
     first
      | (simp [isValue, hJ, valueByte, lower, digit]; done)
      | (simp [isValue, hJ, valueByte, lower, digit]; omega)
      | simp_all [isValue, hJ, valueByte, lower, digit]
    ·
     replace h4 := not_eq_false h4
     replace h4 := of_decide_eq_true h4
     refine WC.skip ?_
     refine At.blocknormal ?_
     refine At.then_ ?_
     refine WC.region ?_
     refine Qm ?_
     refine WL.p Q0 (Yl.add Q0 Q0 Q7) ?_
     refine Qa ?_
     refine WL.nil ?_
     refine At.roundC (k + 1) (hs.only Q2) ⟨by rfl, trivial⟩ ⟨by rfl, trivial⟩ ?_ ?_
     ·
      omega
     ·
      rw [hJ]; simp [valueByte, lower, digit]; omega
 ·
  replace h1 := of_decide_eq_false h1
  rw [drop_out (l := s) Q7] at hJ
  refine WC.exit ?_
  refine At.thenexit ?_
  refine At.thenexit ?_
  refine At.blockexit ?_
  refine At.then_ ?_
  refine WC.seq ?_
  refine Qm ?_
  refine WL.p Q0 (Yl.len_str str9 Q0) ?_
  refine WL.callp hs Q0 (Yc.func Q0 fn73) (c_impl_InRange _ _ _ _) ?_
  clear hs; intro w hs
  refine Qa ?_
  refine WL.next ?_
  refine WC.ret ?_
  refine fin1' rfl Q0 ?_
  refine RetP.mk hs ?_
  first
   | (simp [isValue, hJ, valueByte, lower, digit]; done)
   | (simp [isValue, hJ, valueByte, lower, digit]; omega)
   | simp_all [isValue, hJ, valueByte, lower, digit]

theorem c_impl_IsPolicy (p : PPolicy) (w : World) (h_p : Ph.ok w p)  : Calls Tryd.prog 11 [.agg #[Bo p.set, Sl.v p.scripts, Sl.v p.styles, Sl.v p.images, S p.nonce]].toArray w (RetP w (Bo (p.lg.is))) := by
 refine enterN 50 Tryd.func11 rfl rfl rfl ?_
 have hs := Sat.start w
 refine WC.seq ?_
 refine WL.r Q0 (Yr.box hs Q0 Q0) ?_
 clear hs; rintro _ w ⟨b1, rfl, hb, hs⟩; clear hb
 refine Qa ?_
 refine WL.next ?_
 refine WC.seq' ?_
 refine WC.seq ?_
 refine WL.p Q0 (Yl.fieldAddr fa26_0 Q0) ?_
 refine WL.p Q0 (Yl.loadB sca4 Q0 hs Q1 Q0) ?_
 refine WL.p Q0 (Yl.not Q0) ?_
 refine WL.next ?_
 refine WC.condS Q0 (fun h1 => ?_) (fun h1 => ?_)
 ·
  replace h1 := not_eq_true h1
  refine WC.seq ?_
  refine WL.p Q0 (Yl.fieldAddr fa26_1 Q0) ?_
  refine WL.p Q0 (Yl.loadB sca24 Q0 hs Q1 Q0) ?_
  refine WL.p Q0 (Yl.len_sl slu24 Q0) ?_
  refine WL.p Q0 (Yl.eqi Q0 Q0) ?_
  refine Qm ?_
  refine WL.split (d := 10) Q0 (fun h2 => ?_) (fun h2 => ?_)
  ·
   replace h2 := of_decide_eq_true h2
   refine WL.run (d := 10) Q0 Q0 ?_
   refine WL.p Q0 (Yl.fieldAddr fa26_2 Q0) ?_
   refine WL.run (d := 10) Q0 Q0 ?_
   refine WL.p Q0 (Yl.loadB sca24 Q0 hs Q1 Q0) ?_
   refine WL.run (d := 10) Q0 Q0 ?_
   refine WL.p Q0 (Yl.len_sl slu24 Q0) ?_
   refine WL.run (d := 10) Q0 Q0 ?_
   refine WL.p Q0 (Yl.eqi Q0 Q0) ?_
   refine WL.p Q0 (Yl.pickT Q0 Q0) ?_
   refine Qm ?_
   refine WL.split (d := 16) Q0 (fun h3 => ?_) (fun h3 => ?_)
   ·
    replace h3 := of_decide_eq_true h3
    refine WL.run (d := 16) Q0 Q0 ?_
    refine WL.p Q0 (Yl.fieldAddr fa26_3 Q0) ?_
    refine WL.run (d := 16) Q0 Q0 ?_
    refine WL.p Q0 (Yl.loadB sca24 Q0 hs Q1 Q0) ?_
    refine WL.run (d := 16) Q0 Q0 ?_
    refine WL.p Q0 (Yl.len_sl slu24 Q0) ?_
    refine WL.run (d := 16) Q0 Q0 ?_
    refine WL.p Q0 (Yl.eqi Q0 Q0) ?_
    refine WL.p Q0 (Yl.pickT Q0 Q0) ?_
    refine Qm ?_
    refine WL.split (d := 22) Q0 (fun h4 => ?_) (fun h4 => ?_)
    ·
     replace h4 := of_decide_eq_true h4
     refine WL.run (d := 22) Q0 Q0 ?_
     refine WL.p Q0 (Yl.fieldAddr fa26_4 Q0) ?_
     refine WL.run (d := 22) Q0 Q0 ?_
     refine WL.p Q0 (Yl.loadB sca9 Q0 hs Q1 Q0) ?_
     refine WL.run (d := 22) Q0 Q0 ?_
     refine WL.p Q0 (Yl.eqs Q0 Q0) ?_
     refine WL.p Q0 (Yl.pickT Q0 Q0) ?_
     refine Qa ?_
     refine WL.next ?_
     refine WC.ret ?_
     refine At.thenret ?_
     refine fin1' rfl Q0 ?_
     refine RetP.mk hs ?_
     simp_all [TPolicy.is]
    ·
     replace h4 := of_decide_eq_false h4
     refine WL.skip (d := 22) Q0 Q0 Q0 Q0 ?_
     refine WL.skip (d := 22) Q0 Q0 Q0 Q0 ?_
     refine WL.skip (d := 22) Q0 Q0 Q0 Q0 ?_
     refine WL.p Q0 (Yl.pickF Q0 Q0) ?_
     refine Qa ?_
     refine WL.next ?_
     refine WC.ret ?_
     refine At.thenret ?_
     refine fin1' rfl Q0 ?_
     refine RetP.mk hs ?_
     simp_all [TPolicy.is]
   ·
    replace h3 := of_decide_eq_false h3
    refine WL.skip (d := 16) Q0 Q0 Q0 Q0 ?_
    refine WL.skip (d := 16) Q0 Q0 Q0 Q0 ?_
    refine WL.skip (d := 16) Q0 Q0 Q0 Q0 ?_
    refine WL.skip (d := 16) Q0 Q0 Q0 Q0 ?_
    refine WL.p Q0 (Yl.pickF Q0 Q0) ?_
    refine Qm ?_
    refine WL.skip (d := 22) Q0 Q0 Q0 Q0 ?_
    refine WL.skip (d := 22) Q0 Q0 Q0 Q0 ?_
    refine WL.skip (d := 22) Q0 Q0 Q0 Q0 ?_
    refine WL.p Q0 (Yl.pickF Q0 Q0) ?_
    refine Qa ?_
    refine WL.next ?_
    refine WC.ret ?_
    refine At.thenret ?_
    refine fin1' rfl Q0 ?_
    refine RetP.mk hs ?_
    simp_all [TPolicy.is]
  ·
   replace h2 := of_decide_eq_false h2
   refine WL.skip (d := 10) Q0 Q0 Q0 Q0 ?_
   refine WL.skip (d := 10) Q0 Q0 Q0 Q0 ?_
   refine WL.skip (d := 10) Q0 Q0 Q0 Q0 ?_
   refine WL.skip (d := 10) Q0 Q0 Q0 Q0 ?_
   refine WL.p Q0 (Yl.pickF Q0 Q0) ?_
   refine Qm ?_
   refine WL.skip (d := 16) Q0 Q0 Q0 Q0 ?_
   refine WL.skip (d := 16) Q0 Q0 Q0 Q0 ?_
   refine WL.skip (d := 16) Q0 Q0 Q0 Q0 ?_
   refine WL.skip (d := 16) Q0 Q0 Q0 Q0 ?_
   refine WL.p Q0 (Yl.pickF Q0 Q0) ?_
   refine Qm ?_
   refine WL.skip (d := 22) Q0 Q0 Q0 Q0 ?_
   refine WL.skip (d := 22) Q0 Q0 Q0 Q0 ?_
   refine WL.skip (d := 22) Q0 Q0 Q0 Q0 ?_
   refine WL.p Q0 (Yl.pickF Q0 Q0) ?_
   refine Qa ?_
   refine WL.next ?_
   refine WC.ret ?_
   refine At.thenret ?_
   refine fin1' rfl Q0 ?_
   refine RetP.mk hs ?_
   simp_all [TPolicy.is]
 ·
  replace h1 := not_eq_false h1
  refine WC.skipn ?_
  refine WC.seq ?_
  refine WL.p Q0 (Yl.fieldAddr fa26_1 Q0) ?_
  refine WL.p Q0 (Yl.loadB sca24 Q0 hs Q1 Q0) ?_
  refine WL.callp hs Q0 (Yc.func Q0 fn54) (c_impl_areHosts _ _ (Ph.old h_p.scripts hs)) ?_
  clear hs; intro w hs
  refine Qm ?_
  refine WL.split (d := 30) Q0 (fun h2 => ?_) (fun h2 => ?_)
  ·
   refine WL.run (d := 30) Q0 Q0 ?_
   refine WL.p Q0 (Yl.fieldAddr fa26_2 Q0) ?_
   refine WL.run (d := 30) Q0 Q0 ?_
   refine WL.p Q0 (Yl.loadB sca24 Q0 hs Q1 Q0) ?_
   refine WL.run (d := 30) Q0 Q0 ?_
   refine WL.callp hs Q0 (Yc.func Q0 fn54) (c_impl_areHosts _ _ (Ph.old h_p.styles hs)) ?_
   clear hs; intro w hs
   refine WL.p Q0 (Yl.pickT Q0 Q0) ?_
   refine Qm ?_
   refine WL.split (d := 35) Q0 (fun h3 => ?_) (fun h3 => ?_)
   ·
    refine WL.run (d := 35) Q0 Q0 ?_
    refine WL.p Q0 (Yl.fieldAddr fa26_3 Q0) ?_
    refine WL.run (d := 35) Q0 Q0 ?_
    refine WL.p Q0 (Yl.loadB sca24 Q0 hs Q1 Q0) ?_
    refine WL.run (d := 35) Q0 Q0 ?_
    refine WL.callp hs Q0 (Yc.func Q0 fn54) (c_impl_areHosts _ _ (Ph.old h_p.images hs)) ?_
    clear hs; intro w hs
    refine WL.p Q0 (Yl.pickT Q0 Q0) ?_
    refine Qm ?_
    refine WL.split (d := 40) Q0 (fun h4 => ?_) (fun h4 => ?_)
    ·
     refine WL.run (d := 40) Q0 Q0 ?_
     refine WL.p Q0 (Yl.fieldAddr fa26_4 Q0) ?_
     refine WL.run (d := 40) Q0 Q0 ?_
     refine WL.p Q0 (Yl.loadB sca9 Q0 hs Q1 Q0) ?_
     refine WL.run (d := 40) Q0 Q0 ?_
     refine WL.p Q0 (Yl.eqs Q0 Q0) ?_
     refine WL.run (d := 40) Q0 Q0 ?_
     refine Qm ?_
     refine WL.split (d := 44) Q0 (fun h5 => ?_) (fun h5 => ?_)
     ·
      replace h5 := of_decide_eq_true h5
      refine WL.skip (d := 44) Q0 Q0 Q0 Q0 ?_
      refine WL.skip (d := 44) Q0 Q0 Q0 Q0 ?_
      refine WL.skip (d := 44) Q0 Q0 Q0 Q0 ?_
      refine WL.run (d := 40) Q0 Q0 ?_
      refine WL.p Q0 (Yl.pickT Q0 Q0) ?_
      refine WL.p Q0 (Yl.pickT Q0 Q0) ?_
      refine Qa ?_
      refine WL.next ?_
      refine WC.ret ?_
      refine fin1' rfl Q0 ?_
      refine RetP.mk hs ?_
      simp_all [TPolicy.is]
     ·
      replace h5 := of_decide_eq_false h5
      refine WL.run (d := 44) Q0 Q0 ?_
      refine WL.p Q0 (Yl.fieldAddr fa26_4 Q0) ?_
      refine WL.run (d := 44) Q0 Q0 ?_
      refine WL.p Q0 (Yl.loadB sca9 Q0 hs Q1 Q0) ?_
      refine WL.run (d := 44) Q0 Q0 ?_
      refine WL.callp hs Q0 (Yc.func Q0 fn55) (c_impl_IsValue _ _ (Ph.old h_p.nonce hs)) ?_
      clear hs; intro w hs
      refine WL.run (d := 40) Q0 Q0 ?_
      refine WL.p Q0 (Yl.pickF Q0 Q0) ?_
      refine WL.p Q0 (Yl.pickT Q0 Q0) ?_
      refine Qa ?_
      refine WL.next ?_
      refine WC.ret ?_
      refine fin1' rfl Q0 ?_
      refine RetP.mk hs ?_
      simp_all [TPolicy.is]
    ·
     refine WL.skip (d := 40) Q0 Q0 Q0 Q0 ?_
     refine WL.skip (d := 40) Q0 Q0 Q0 Q0 ?_
     refine WL.skip (d := 40) Q0 Q0 Q0 Q0 ?_
     refine WL.skip (d := 40) Q0 Q0 Q0 Q0 ?_
     refine WL.skipU (d := 44) Q0 Q0 Q0 ?_
     refine WL.skipU (d := 44) Q0 Q0 Q0 ?_
     refine WL.skipU (d := 44) Q0 Q0 Q0 ?_
     refine WL.skip (d := 40) Q0 Q0 Q0 Q0 ?_
     refine WL.p Q0 (Yl.pickF Q0 Q0) ?_
     refine Qa ?_
     refine WL.next ?_
     refine WC.ret ?_
     refine fin1' rfl Q0 ?_
     refine RetP.mk hs ?_
     simp_all [TPolicy.is]
   ·
    refine WL.skip (d := 35) Q0 Q0 Q0 Q0 ?_
    refine WL.skip (d := 35) Q0 Q0 Q0 Q0 ?_
    refine WL.skip (d := 35) Q0 Q0 Q0 Q0 ?_
    refine WL.p Q0 (Yl.pickF Q0 Q0) ?_
    refine Qm ?_
    refine WL.skip (d := 40) Q0 Q0 Q0 Q0 ?_
    refine WL.skip (d := 40) Q0 Q0 Q0 Q0 ?_
    refine WL.skip (d := 40) Q0 Q0 Q0 Q0 ?_
    refine WL.skip (d := 40) Q0 Q0 Q0 Q0 ?_
    refine WL.skipU (d := 44) Q0 Q0 Q0 ?_
    refine WL.skipU (d := 44) Q0 Q0 Q0 ?_
    refine WL.skipU (d := 44) Q0 Q0 Q0 ?_
    refine WL.skip (d := 40) Q0 Q0 Q0 Q0 ?_
    refine WL.p Q0 (Yl.pickF Q0 Q0) ?_
    refine Qa ?_
    refine WL.next ?_
    refine WC.ret ?_
    refine fin1' rfl Q0 ?_
    refine RetP.mk hs ?_
    simp_all [TPolicy.is]
  ·
   refine WL.skip (d := 30) Q0 Q0 Q0 Q0 ?_
   refine WL.skip (d := 30) Q0 Q0 Q0 Q0 ?_
   refine WL.skip (d := 30) Q0 Q0 Q0 Q0 ?_
   refine WL.p Q0 (Yl.pickF Q0 Q0) ?_
   refine Qm ?_
   refine WL.skip (d := 35) Q0 Q0 Q0 Q0 ?_
   refine WL.skip (d := 35) Q0 Q0 Q0 Q0 ?_
   refine WL.skip (d := 35) Q0 Q0 Q0 Q0 ?_
   refine WL.p Q0 (Yl.pickF Q0 Q0) ?_
   refine Qm ?_
   refine WL.skip (d := 40) Q0 Q0 Q0 Q0 ?_
   refine WL.skip (d := 40) Q0 Q0 Q0 Q0 ?_
   refine WL.skip (d := 40) Q0 Q0 Q0 Q0 ?_
   refine WL.skip (d := 40) Q0 Q0 Q0 Q0 ?_
   refine WL.skipU (d := 44) Q0 Q0 Q0 ?_
   refine WL.skipU (d := 44) Q0 Q0 Q0 ?_
   refine WL.skipU (d := 44) Q0 Q0 Q0 ?_
   refine WL.skip (d := 40) Q0 Q0 Q0 Q0 ?_
   refine WL.p Q0 (Yl.pickF Q0 Q0) ?_
   refine Qa ?_
   refine WL.next ?_
   refine WC.ret ?_
   refine fin1' rfl Q0 ?_
   refine RetP.mk hs ?_
   simp_all [TPolicy.is]

theorem c_strings_Join (elems : (Sl Str)) (sep : Str) (w : World) (h_elems : Ph.ok w elems) (h1 : elems.l.length ≤ 140737488355328) (h2 : (joinS elems.l sep).length ≤ 140737488355328) : Calls Tryd.prog 53 [Sl.v elems, S sep].toArray w (RetP w (S (joinS elems.l sep))) := by
 exact join_calls Tryd.strings_Join_none Tryd.strings_Join elems sep w h_elems h1 h2

theorem c_impl_FormatPolicy (p : PPolicy) (w : World) (h_p : Ph.ok w p) (hb : p.lg.size ≤ 2097152) : Calls Tryd.prog 10 [.agg #[Bo p.set, Sl.v p.scripts, Sl.v p.styles, Sl.v p.images, S p.nonce]].toArray w (RetP w (S (fmtPolicy p.lg))) := by
 refine enterN 40 Tryd.func10 rfl rfl rfl ?_
 have hs := Sat.start w
 refine WC.seq ?_
 refine WL.r Q0 (Yr.box hs Q0 Q0) ?_
 clear hs; rintro _ w ⟨b1, rfl, hb, hs⟩; clear hb
 refine Qa ?_
 refine WL.next ?_
 refine WC.seq' ?_
 refine WC.seq ?_
 refine WL.p Q0 (Yl.loadAB agg26 Q0 hs Q1 Q0 Q0) ?_
 refine WL.callp hs Q0 (Yc.func Q0 fn11) (c_impl_IsPolicy _ _ (Ph.old h_p hs)) ?_
 clear hs; intro w hs
 refine WL.p Q0 (Yl.not Q0) ?_
 refine Qm ?_
 refine WL.split (d := 7) Q0 (fun h1 => ?_) (fun h1 => ?_)
 ·
  replace h1 := not_eq_true h1
  refine WL.skip (d := 7) Q0 Q0 Q0 Q0 ?_
  refine WL.skip (d := 7) Q0 Q0 Q0 Q0 ?_
  refine WL.skip (d := 7) Q0 Q0 Q0 Q0 ?_
  refine WL.p Q0 (Yl.pickT Q0 Q0) ?_
  refine WL.next ?_
  refine WC.condT Q0 ?_
  refine WC.seq ?_
  refine Qa ?_
  refine WL.next ?_
  refine WC.ret ?_
  refine At.thenret ?_
  refine fin1' rfl Q0 ?_
  refine RetP.mk hs ?_
  first
   | (simp [fmtPolicy, h1]; done)
   | (simp [fmtPolicy, h2]; done)
   | (simp [fmtPolicy, h1, h2, h3, wordsText]; done)
 ·
  replace h1 := not_eq_false h1
  refine WL.run (d := 7) Q0 Q0 ?_
  refine WL.p Q0 (Yl.fieldAddr fa26_0 Q0) ?_
  refine WL.run (d := 7) Q0 Q0 ?_
  refine WL.p Q0 (Yl.loadB sca4 Q0 hs Q1 Q0) ?_
  refine WL.run (d := 7) Q0 Q0 ?_
  refine WL.p Q0 (Yl.not Q0) ?_
  refine WL.p Q0 (Yl.pickF Q0 Q0) ?_
  refine WL.next ?_
  refine WC.condS Q0 (fun h2 => ?_) (fun h2 => ?_)
  ·
   replace h2 := not_eq_true h2
   refine WC.seq ?_
   refine Qa ?_
   refine WL.next ?_
   refine WC.ret ?_
   refine At.thenret ?_
   refine fin1' rfl Q0 ?_
   refine RetP.mk hs ?_
   first
    | (simp [fmtPolicy, h1]; done)
    | (simp [fmtPolicy, h2]; done)
    | (simp [fmtPolicy, h1, h2, h3, wordsText]; done)
  ·
   replace h2 := not_eq_false h2
   refine WC.skipn ?_
   refine WC.anyn mixed hs ?_
   clear hs; intro w hs
   refine WA.p (i := 1) Q0 Q6 Q6 Q6 Q0 (hs.only Q2) (fun w hs => Yl.fieldAddr fa26_1 Q0) ?_
   refine WA.p (i := 2) Q0 Q6 Q6 Q6 Q0 (hs.only Q2) (fun w hs => Yl.loadB sca24 Q0 hs Q1 Q0) ?_
   refine WA.p (i := 7) Q0 Q6 Q6 Q6 Q0 (hs.only Q2) (fun w hs => Yl.fieldAddr fa26_2 Q0) ?_
   refine WA.p (i := 8) Q0 Q6 Q6 Q6 Q0 (hs.only Q2) (fun w hs => Yl.loadB sca24 Q0 hs Q1 Q0) ?_
   refine WA.p (i := 14) Q0 Q6 Q6 Q6 Q0 (hs.only Q2) (fun w hs => Yl.fieldAddr fa26_3 Q0) ?_
   refine WA.p (i := 15) Q0 Q6 Q6 Q6 Q0 (hs.only Q2) (fun w hs => Yl.loadB sca24 Q0 hs Q1 Q0) ?_
   refine WA.dag' [(⟨0, 12, [], (fun _ v cs => ∃ b, v = .slice (some ⟨b, 0, none⟩) 1 1 ∧ cs = [box b 9 (([S (([115, 99, 114, 105, 112, 116] : Str))]))])⟩, []), (⟨3, 15, [], (fun _ v cs => ∃ (x : Sl Str) (F : List Nat), v = x.v ∧ cs = [ow x F] ∧ x.l = [([115, 99, 114, 105, 112, 116] : Str)] ++ p.scripts.l)⟩, [(0, true)]), (⟨4, 16, [], (fun _ v cs => v = S (joinS ([([115, 99, 114, 105, 112, 116] : Str)] ++ p.scripts.l) ([32] : Str)) ∧ cs = [])⟩, [(1, false)]), (⟨5, 17, [], (fun _ v cs => v = S (((joinS ([([115, 99, 114, 105, 112, 116] : Str)] ++ p.scripts.l) ([32] : Str)) ++ ([59] : Str))) ∧ cs = [])⟩, [(2, false)]), (⟨6, 18, [], (fun _ v cs => ∃ b, v = .slice (some ⟨b, 0, none⟩) 1 1 ∧ cs = [box b 9 (([S (([115, 116, 121, 108, 101] : Str))]))])⟩, []), (⟨9, 21, [], (fun _ v cs => ∃ (x : Sl Str) (F : List Nat), v = x.v ∧ cs = [ow x F] ∧ x.l = [([115, 116, 121, 108, 101] : Str)] ++ p.styles.l)⟩, [(2, false), (4, true)]), (⟨10, 22, [], (fun _ v cs => v = S (joinS ([([115, 116, 121, 108, 101] : Str)] ++ p.styles.l) ([32] : Str)) ∧ cs = [])⟩, [(5, false)]), (⟨11, 23, [], (fun _ v cs => v = S ((((joinS ([([115, 99, 114, 105, 112, 116] : Str)] ++ p.scripts.l) ([32] : Str)) ++ ([59] : Str)) ++ (joinS ([([115, 116, 121, 108, 101] : Str)] ++ p.styles.l) ([32] : Str)))) ∧ cs = [])⟩, [(3, false), (6, false)]), (⟨12, 24, [], (fun _ v cs => v = S (((((joinS ([([115, 99, 114, 105, 112, 116] : Str)] ++ p.scripts.l) ([32] : Str)) ++ ([59] : Str)) ++ (joinS ([([115, 116, 121, 108, 101] : Str)] ++ p.styles.l) ([32] : Str))) ++ ([59] : Str))) ∧ cs = [])⟩, [(7, false)]), (⟨13, 25, [], (fun _ v cs => ∃ b, v = .slice (some ⟨b, 0, none⟩) 1 1 ∧ cs = [box b 9 (([S (([105, 109, 103] : Str))]))])⟩, []), (⟨16, 28, [], (fun _ v cs => ∃ (x : Sl Str) (F : List Nat), v = x.v ∧ cs = [ow x F] ∧ x.l = [([105, 109, 103] : Str)] ++ p.images.l)⟩, [(6, false), (9, true)]), (⟨17, 29, [], (fun _ v cs => v = S (joinS ([([105, 109, 103] : Str)] ++ p.images.l) ([32] : Str)) ∧ cs = [])⟩, [(10, false)])] [true, false, false, false, true, false, false, false, false, true, false, false] [(0, _), (1, _), (2, _), (4, _), (5, _), (6, _), (7, _), (8, _), (9, _), (10, _), (11, _), (13, _), (14, _), (19, _), (20, _), (26, _), (27, _)] ⟨by rfl, by rfl, by rfl, by rfl, by rfl, by rfl, by rfl, by rfl, by rfl, by rfl, by rfl, by rfl, by rfl, by rfl, by rfl, by rfl, by rfl, trivial⟩ Q0 Q6 Q6 Q6 Q6 Q6 Q6 Q6 Q6 (fun _ hs => hs.only Q2) hs (fuel := 2) ⟨⟨local_const, ?_⟩, ⟨local_const, ?_⟩, ⟨local_const, ?_⟩, ⟨local_const, ?_⟩, ⟨local_const, ?_⟩, ⟨local_const, ?_⟩, ⟨local_const, ?_⟩, ⟨local_const, ?_⟩, ⟨local_const, ?_⟩, ⟨local_const, ?_⟩, ⟨local_const, ?_⟩, ⟨local_const, ?_⟩, trivial⟩ ?_
   ·
    clear hs
    intro w R hs
    simp only [List.cons_append, List.nil_append] at hs
    exact Gives.rr' Q0 (Yr.buildSlice hs sll24 Q0 Q0 Q0 Q4 Q0) (fun _ _ ⟨b, hv, _, hs1⟩ => ⟨[box b 9 (([S (([115, 99, 114, 105, 112, 116] : Str))]))], ⟨b, hv, rfl⟩, hs1⟩)
   ·
    clear hs
    rintro _ _ ⟨b2, rfl, rfl⟩
    intro w R hs
    simp only [List.cons_append, List.nil_append] at hs
    replace hs := (Sat.boxow (l := ([([115, 99, 114, 105, 112, 116] : Str)] : List Str)) (hs.sel (D := [box b2 _ _]) Q2) rfl rfl (by simp [maxLen]) (ownL_mk_flat (by intro x hx; obtain rfl := List.mem_singleton.1 hx; show WfS _; unfold WfS; simp)))
    refine Gives.rr' Q0 (Yr.appendS (s := (⟨[([115, 99, 114, 105, 112, 116] : Str)], some ⟨b2, 0, none⟩, _⟩ : Sl Str)) (F := [b2]) (r := p.scripts) hs elt24 Q2 Q0 Q0 (Ph.old h_p.scripts hs) (by simp only [TPolicy.size, PPolicy.lg, strsz, lsz] at hb; simp; unfold maxLen; omega) (by simp only [TPolicy.size, PPolicy.lg, strsz, lsz] at hb; simp; omega)) ?_
    rintro _ w1 ⟨s4, F4, rfl, hl4, hs⟩
    exact ⟨[ow s4 F4], ⟨s4, F4, rfl, rfl, by first | exact hl4 | (simp only [List.append_nil] at hl4 ⊢; exact hl4)⟩, hs⟩
   ·
    clear hs
    rintro _ _ ⟨x5, F5, rfl, rfl, hx5⟩
    intro w R hs
    simp only [List.cons_append, List.nil_append] at hs
    refine Gives.c' Q0 (Yc.func Q0 fn53) (c_strings_Join _ _ _ (hs.okow (x := x5) (F := F5) Q1) (by simp only [hx5]; first | (simp only [TPolicy.size, PPolicy.lg, strsz, lsz] at hb; simp; omega) | (simp only [List.cons_append, List.nil_append]; refine Nat.le_trans (wordsText_len _ _) ?_; simp only [TPolicy.size, PPolicy.lg, List.length_cons, List.length_nil] at hb ⊢; omega)) (by simp only [hx5]; first | (simp only [TPolicy.size, PPolicy.lg, strsz, lsz] at hb; simp; omega) | (simp only [List.cons_append, List.nil_append]; refine Nat.le_trans (wordsText_len _ _) ?_; simp only [TPolicy.size, PPolicy.lg, List.length_cons, List.length_nil] at hb ⊢; omega))) ?_
    rintro _ w1 ⟨rfl, hb⟩
    exact ⟨_, rfl, [], ⟨(by first | rfl | (simp only [hx5])), rfl⟩, hs.ext hb⟩
   ·
    clear hs
    rintro _ _ ⟨rfl, rfl⟩
    intro w R hs
    simp only [List.cons_append, List.nil_append] at hs
    exact Gives.p' Q0 (Yl.cat Q0 Q0 (by have j1 := wordsText_len [115, 99, 114, 105, 112, 116] p.scripts.l; have j2 := wordsText_len [115, 116, 121, 108, 101] p.styles.l; have j3 := wordsText_len [105, 109, 103] p.images.l; simp only [wordsText, List.cons_append, List.nil_append, List.length_append, List.length_cons, List.length_nil, TPolicy.size, PPolicy.lg] at j1 j2 j3 hb ⊢; omega)) ⟨[], ⟨rfl, rfl⟩, hs⟩
   ·
    clear hs
    intro w R hs
    simp only [List.cons_append, List.nil_append] at hs
    exact Gives.rr' Q0 (Yr.buildSlice hs sll24 Q0 Q0 Q0 Q4 Q0) (fun _ _ ⟨b, hv, _, hs1⟩ => ⟨[box b 9 (([S (([115, 116, 121, 108, 101] : Str))]))], ⟨b, hv, rfl⟩, hs1⟩)
   ·
    clear hs
    rintro _ _ ⟨rfl, rfl⟩
    rintro _ _ ⟨b8, rfl, rfl⟩
    intro w R hs
    simp only [List.cons_append, List.nil_append] at hs
    replace hs := (Sat.boxow (l := ([([115, 116, 121, 108, 101] : Str)] : List Str)) (hs.sel (D := [box b8 _ _]) Q2) rfl rfl (by simp [maxLen]) (ownL_mk_flat (by intro x hx; obtain rfl := List.mem_singleton.1 hx; show WfS _; unfold WfS; simp)))
    refine Gives.rr' Q0 (Yr.appendS (s := (⟨[([115, 116, 121, 108, 101] : Str)], some ⟨b8, 0, none⟩, _⟩ : Sl Str)) (F := [b8]) (r := p.styles) hs elt24 Q2 Q0 Q0 (Ph.old h_p.styles hs) (by simp only [TPolicy.size, PPolicy.lg, strsz, lsz] at hb; simp; unfold maxLen; omega) (by simp only [TPolicy.size, PPolicy.lg, strsz, lsz] at hb; simp; omega)) ?_
    rintro _ w1 ⟨s10, F10, rfl, hl10, hs⟩
    exact ⟨[ow s10 F10], ⟨s10, F10, rfl, rfl, by first | exact hl10 | (simp only [List.append_nil] at hl10 ⊢; exact hl10)⟩, hs⟩
   ·
    clear hs
    rintro _ _ ⟨x11, F11, rfl, rfl, hx11⟩
    intro w R hs
    simp only [List.cons_append, List.nil_append] at hs
    refine Gives.c' Q0 (Yc.func Q0 fn53) (c_strings_Join _ _ _ (hs.okow (x := x11) (F := F11) Q1) (by simp only [hx11]; first | (simp only [TPolicy.size, PPolicy.lg, strsz, lsz] at hb; simp; omega) | (simp only [List.cons_append, List.nil_append]; refine Nat.le_trans (wordsText_len _ _) ?_; simp only [TPolicy.size, PPolicy.lg, List.length_cons, List.length_nil] at hb ⊢; omega)) (by simp only [hx11]; first | (simp only [TPolicy.size, PPolicy.lg, strsz, lsz] at hb; simp; omega) | (simp only [List.cons_append, List.nil_append]; refine Nat.le_trans (wordsText_len _ _) ?_; simp only [TPolicy.size, PPolicy.lg, List.length_cons, List.length_nil] at hb ⊢; omega))) ?_
    rintro _ w1 ⟨rfl, hb⟩
    exact ⟨_, rfl, [], ⟨(by first | rfl | (simp only [hx11])), rfl⟩, hs.ext hb⟩
   ·
    clear hs
    rintro _ _ ⟨rfl, rfl⟩
    rintro _ _ ⟨rfl, rfl⟩
    intro w R hs
    simp only [List.cons_append, List.nil_append] at hs
    exact Gives.p' Q0 (Yl.cat Q0 Q0 (by have j1 := wordsText_len [115, 99, 114, 105, 112, 116] p.scripts.l; have j2 := wordsText_len [115, 116, 121, 108, 101] p.styles.l; have j3 := wordsText_len [105, 109, 103] p.images.l; simp only [wordsText, List.cons_append, List.nil_append, List.length_append, List.length_cons, List.length_nil, TPolicy.size, PPolicy.lg] at j1 j2 j3 hb ⊢; omega)) ⟨[], ⟨rfl, rfl⟩, hs⟩
   ·
    clear hs
    rintro _ _ ⟨rfl, rfl⟩
    intro w R hs
    simp only [List.cons_append, List.nil_append] at hs
    exact Gives.p' Q0 (Yl.cat Q0 Q0 (by have j1 := wordsText_len [115, 99, 114, 105, 112, 116] p.scripts.l; have j2 := wordsText_len [115, 116, 121, 108, 101] p.styles.l; have j3 := wordsText_len [105, 109, 103] p.images.l; simp only [wordsText, List.cons_append, List.nil_append, List.length_append, List.length_cons, List.length_nil, TPolicy.size, PPolicy.lg] at j1 j2 j3 hb ⊢; omega)) ⟨[], ⟨rfl, rfl⟩, hs⟩
   ·
    clear hs
    intro w R hs
    simp only [List.cons_append, List.nil_append] at hs
    exact Gives.rr' Q0 (Yr.buildSlice hs sll24 Q0 Q0 Q0 Q4 Q0) (fun _ _ ⟨b, hv, _, hs1⟩ => ⟨[box b 9 (([S (([105, 109, 103] : Str))]))], ⟨b, hv, rfl⟩, hs1⟩)
   ·
    clear hs
    rintro _ _ ⟨rfl, rfl⟩
    rintro _ _ ⟨b15, rfl, rfl⟩
    intro w R hs
    simp only [List.cons_append, List.nil_append] at hs
    replace hs := (Sat.boxow (l := ([([105, 109, 103] : Str)] : List Str)) (hs.sel (D := [box b15 _ _]) Q2) rfl rfl (by simp [maxLen]) (ownL_mk_flat (by intro x hx; obtain rfl := List.mem_singleton.1 hx; show WfS _; unfold WfS; simp)))
    refine Gives.rr' Q0 (Yr.appendS (s := (⟨[([105, 109, 103] : Str)], some ⟨b15, 0, none⟩, _⟩ : Sl Str)) (F := [b15]) (r := p.images) hs elt24 Q2 Q0 Q0 (Ph.old h_p.images hs) (by simp only [TPolicy.size, PPolicy.lg, strsz, lsz] at hb; simp; unfold maxLen; omega) (by simp only [TPolicy.size, PPolicy.lg, strsz, lsz] at hb; simp; omega)) ?_
    rintro _ w1 ⟨s17, F17, rfl, hl17, hs⟩
    exact ⟨[ow s17 F17], ⟨s17, F17, rfl, rfl, by first | exact hl17 | (simp only [List.append_nil] at hl17 ⊢; exact hl17)⟩, hs⟩
   ·
    clear hs
    rintro _ _ ⟨x18, F18, rfl, rfl, hx18⟩
    intro w R hs
    simp only [List.cons_append, List.nil_append] at hs
    refine Gives.c' Q0 (Yc.func Q0 fn53) (c_strings_Join _ _ _ (hs.okow (x := x18) (F := F18) Q1) (by simp only [hx18]; first | (simp only [TPolicy.size, PPolicy.lg, strsz, lsz] at hb; simp; omega) | (simp only [List.cons_append, List.nil_append]; refine Nat.le_trans (wordsText_len _ _) ?_; simp only [TPolicy.size, PPolicy.lg, List.length_cons, List.length_nil] at hb ⊢; omega)) (by simp only [hx18]; first | (simp only [TPolicy.size, PPolicy.lg, strsz, lsz] at hb; simp; omega) | (simp only [List.cons_append, List.nil_append]; refine Nat.le_trans (wordsText_len _ _) ?_; simp only [TPolicy.size, PPolicy.lg, List.length_cons, List.length_nil] at hb ⊢; omega))) ?_
    rintro _ w1 ⟨rfl, hb⟩
    exact ⟨_, rfl, [], ⟨(by first | rfl | (simp only [hx18])), rfl⟩, hs.ext hb⟩
   clear hs
   rintro _ _ ⟨b2, rfl, rfl⟩
   rintro _ _ ⟨x5, F5, rfl, rfl, hx5⟩
   rintro _ _ ⟨rfl, rfl⟩
   rintro _ _ ⟨rfl, rfl⟩
   rintro _ _ ⟨b8, rfl, rfl⟩
   rintro _ _ ⟨x11, F11, rfl, rfl, hx11⟩
   rintro _ _ ⟨rfl, rfl⟩
   rintro _ _ ⟨rfl, rfl⟩
   rintro _ _ ⟨rfl, rfl⟩
   rintro _ _ ⟨b15, rfl, rfl⟩
   rintro _ _ ⟨x18, F18, rfl, rfl, hx18⟩
   rintro _ _ ⟨rfl, rfl⟩
   intro w hs
   simp only [List.cons_append, List.nil_append, cond_true, cond_false] at hs
   refine WA.p (i := 18) Q0 Q6 Q6 Q6 Q0 (hs.only Q2) (fun w hs => Yl.cat Q0 Q0 (by have j1 := wordsText_len [115, 99, 114, 105, 112, 116] p.scripts.l; have j2 := wordsText_len [115, 116, 121, 108, 101] p.styles.l; have j3 := wordsText_len [105, 109, 103] p.images.l; simp only [wordsText, List.cons_append, List.nil_append, List.length_append, List.length_cons, List.length_nil, TPolicy.size, PPolicy.lg] at j1 j2 j3 hb ⊢; omega)) ?_
   refine WA.p (i := 19) Q0 Q6 Q6 Q6 Q0 (hs.only Q2) (fun w hs => Yl.assign Q0) ?_
   refine WA.donen Q6 ?_
   refine WC.seq' ?_
   refine WC.seq ?_
   refine WL.p Q0 (Yl.fieldAddr fa26_4 Q0) ?_
   refine WL.p Q0 (Yl.loadB sca9 Q0 hs Q1 Q0) ?_
   refine WL.p Q0 (Yl.nes Q0 Q0) ?_
   refine WL.next ?_
   refine WC.condS Q0 (fun h3 => ?_) (fun h3 => ?_)
   ·
    replace h3 := not_eq_true h3
    replace h3 := of_decide_eq_false h3
    refine WC.region ?_
    refine Qm ?_
    refine WL.p Q0 (Yl.fieldAddr fa26_4 Q0) ?_
    refine WL.p Q0 (Yl.loadB sca9 Q0 hs Q1 Q0) ?_
    refine WL.p Q0 (Yl.cat Q0 Q0 (by have j1 := wordsText_len [115, 99, 114, 105, 112, 116] p.scripts.l; have j2 := wordsText_len [115, 116, 121, 108, 101] p.styles.l; have j3 := wordsText_len [105, 109, 103] p.images.l; simp only [wordsText, List.cons_append, List.nil_append, List.length_append, List.length_cons, List.length_nil, TPolicy.size, PPolicy.lg] at j1 j2 j3 hb ⊢; omega)) ?_
    refine WL.p Q0 (Yl.cat Q0 Q0 (by have j1 := wordsText_len [115, 99, 114, 105, 112, 116] p.scripts.l; have j2 := wordsText_len [115, 116, 121, 108, 101] p.styles.l; have j3 := wordsText_len [105, 109, 103] p.images.l; simp only [wordsText, List.cons_append, List.nil_append, List.length_append, List.length_cons, List.length_nil, TPolicy.size, PPolicy.lg] at j1 j2 j3 hb ⊢; omega)) ?_
    refine Qa ?_
    refine WL.nil ?_
    refine At.then_ ?_
    refine WC.seq ?_
    refine Qm ?_
    refine Qa ?_
    refine WL.next ?_
    refine WC.ret ?_
    refine fin1' rfl Q0 ?_
    refine RetP.mk hs ?_
    first
     | (simp [fmtPolicy, h1]; done)
     | (simp [fmtPolicy, h2]; done)
     | (simp [fmtPolicy, h1, h2, h3, wordsText]; done)
   ·
    replace h3 := not_eq_false h3
    replace h3 := of_decide_eq_true h3
    refine WC.skipn ?_
    refine WC.seq ?_
    refine Qm ?_
    refine Qa ?_
    refine WL.next ?_
    refine WC.ret ?_
    refine fin1' rfl Q0 ?_
    refine RetP.mk hs ?_
    first
     | (simp [fmtPolicy, h1]; done)
     | (simp [fmtPolicy, h2]; done)
     | (simp [fmtPolicy, h1, h2, h3, wordsText]; done)

theorem c_strings_Split (s : Str) (sep : Str) (w : World)  (h1 : s.length ≤ 2097152) (h2 : sep = [sep.headD 0]) (hm_ : ∃ m, w.cell? ⟨0, 0, none⟩ = some (.int .i64 m)) : Calls Tryd.prog 50 [S s, S sep].toArray w (Ret w (fun v w' => ∃ x : Sl Str, v = x.v ∧ x.l = splitC (sep.headD 0) s ∧ Fresh w x w')) := by
 rw [h2]; exact split_calls Tryd.strings_Split s (sep.headD 0) w h1 hm_

theorem c_strings_TrimPrefix (s : Str) (prefix_ : Str) (w : World)   : Calls Tryd.prog 51 [S s, S prefix_].toArray w (RetP w (S (if prefix_.isPrefixOf s then s.drop prefix_.length else s))) := by
 exact trim_calls Tryd.strings_TrimPrefix s prefix_ w

theorem c_impl_copyPolicy (p : PPolicy) (w : World) (h_p : Ph.ok w p) (hb : p.lg.size ≤ 1048576) : Calls Tryd.prog 52 [.agg #[Bo p.set, Sl.v p.scripts, Sl.v p.styles, Sl.v p.images, S p.nonce]].toArray w (Ret w (fun v w' => ∃ x : PPolicy, v = .agg (Ph.enc x).toArray ∧ x.lg = p.lg ∧ Fresh w x w')) := by
 refine enterN 19 Tryd.func52 rfl rfl rfl ?_
 have hs := Sat.start w
 refine WC.seq ?_
 refine WL.r Q0 (Yr.box hs Q0 Q0) ?_
 clear hs; rintro _ w ⟨b1, rfl, hb, hs⟩; clear hb
 refine WL.r Q0 (Yr.alloc hs zt26) ?_
 clear hs; rintro _ w ⟨b2, rfl, hb, hs⟩; clear hb
 refine WL.next ?_
 refine WC.seq ?_
 refine WL.r Q0 (Yr.buildSlice hs sll24 Q0 Q0 Q0 Q4 Q0) ?_
 clear hs; rintro _ w ⟨b3, rfl, hb, hs⟩; clear hb
 refine WL.p Q0 (Yl.fieldAddr fa26_1 Q0) ?_
 refine WL.p Q0 (Yl.loadB sca24 Q0 hs Q1 Q0) ?_
 replace hs := (Sat.boxow (l := ([] : List Str)) (hs.sel (D := [box b3 _ _]) Q2) rfl rfl (by simp [maxLen]) (ownL_mk_flat (by simp)))
 refine WL.r Q0 (Yr.appendS (s := (⟨[], some ⟨b3, 0, none⟩, _⟩ : Sl Str)) (F := [b3]) (r := p.scripts) hs elt24 Q2 Q0 Q0 (Ph.old h_p.scripts hs) (by have h1 := h_p.scripts.lt; have h2 := h_p.styles.lt; have h3 := h_p.images.lt; simp; unfold maxLen; omega) (by simp only [TPolicy.size, strsz, lsz] at hb; simp; omega)) ?_
 clear hs; rintro _ w ⟨s4, F4, rfl, hl4, hs⟩
 refine WL.p Q0 (Yl.fieldAddr fa26_1 Q0) ?_
 refine WL.s (Yr.storeB hs Q0 Q0 Q0 Q5 Q3 Q0 (by exact szf24)) ?_
 clear hs; rintro _ w hs
 refine WL.next ?_
 refine WC.seq ?_
 refine WL.r Q0 (Yr.buildSlice hs sll24 Q0 Q0 Q0 Q4 Q0) ?_
 clear hs; rintro _ w ⟨b5, rfl, hb, hs⟩; clear hb
 refine WL.p Q0 (Yl.fieldAddr fa26_2 Q0) ?_
 refine WL.p Q0 (Yl.loadB sca24 Q0 hs Q1 Q0) ?_
 replace hs := (Sat.boxow (l := ([] : List Str)) (hs.sel (D := [box b5 _ _]) Q2) rfl rfl (by simp [maxLen]) (ownL_mk_flat (by simp)))
 refine WL.r Q0 (Yr.appendS (s := (⟨[], some ⟨b5, 0, none⟩, _⟩ : Sl Str)) (F := [b5]) (r := p.styles) hs elt24 Q2 Q0 Q0 (Ph.old h_p.styles hs) (by have h1 := h_p.scripts.lt; have h2 := h_p.styles.lt; have h3 := h_p.images.lt; simp; unfold maxLen; omega) (by simp only [TPolicy.size, strsz, lsz] at hb; simp; omega)) ?_
 clear hs; rintro _ w ⟨s6, F6, rfl, hl6, hs⟩
 refine WL.p Q0 (Yl.fieldAddr fa26_2 Q0) ?_
 refine WL.s (Yr.storeB hs Q0 Q0 Q0 Q5 Q3 Q0 (by exact szf24)) ?_
 clear hs; rintro _ w hs
 refine WL.next ?_
 refine WC.seq ?_
 refine WL.r Q0 (Yr.buildSlice hs sll24 Q0 Q0 Q0 Q4 Q0) ?_
 clear hs; rintro _ w ⟨b7, rfl, hb, hs⟩; clear hb
 refine WL.p Q0 (Yl.fieldAddr fa26_3 Q0) ?_
 refine WL.p Q0 (Yl.loadB sca24 Q0 hs Q1 Q0) ?_
 replace hs := (Sat.boxow (l := ([] : List Str)) (hs.sel (D := [box b7 _ _]) Q2) rfl rfl (by simp [maxLen]) (ownL_mk_flat (by simp)))
 refine WL.r Q0 (Yr.appendS (s := (⟨[], some ⟨b7, 0, none⟩, _⟩ : Sl Str)) (F := [b7]) (r := p.images) hs elt24 Q2 Q0 Q0 (Ph.old h_p.images hs) (by have h1 := h_p.scripts.lt; have h2 := h_p.styles.lt; have h3 := h_p.images.lt; simp; unfold maxLen; omega) (by simp only [TPolicy.size, strsz, lsz] at hb; simp; omega)) ?_
 clear hs; rintro _ w ⟨s8, F8, rfl, hl8, hs⟩
 refine WL.p Q0 (Yl.fieldAddr fa26_3 Q0) ?_
 refine WL.s (Yr.storeB hs Q0 Q0 Q0 Q5 Q3 Q0 (by exact szf24)) ?_
 clear hs; rintro _ w hs
 refine WL.next ?_
 refine WC.seq ?_
 refine WL.p Q0 (Yl.loadAB agg26 Q0 hs Q1 Q0 Q0) ?_
 refine WL.s (Yr.storeB hs Q0 Q0 Q0 Q5 Q3 Q0 (by exact szf26)) ?_
 clear hs; rintro _ w hs
 refine WL.next ?_
 refine WC.ret ?_
 refine fin1c rfl agg26 Q0 hs Q1 Q0 ?_
 refine Ret.mk hs ?_
 refine ⟨⟨_, s4, s6, s8, _⟩, rfl, ?_, ?_⟩
 · simp_all
 · exact (PPolicy.join _ (hs.only (D := [ow s4 F4, ow s6 F6, ow s8 F8]) Q2) (by first | exact Ph.old h_p.set hs | trivial | assumption | exact Nat.zero_le _) (by first | exact Ph.old h_p.nonce hs | trivial | assumption | exact Nat.zero_le _)).fresh List.mem_cons_self

theorem c_impl_ParsePolicy (s : Str) (w : World)  (hb : s.length ≤ 1048576) (hm_ : ∃ m, w.cell? ⟨0, 0, none⟩ = some (.int .i64 m)) : Calls Tryd.prog 9 [S s].toArray w (Ret w (fun v w' => ∃ x : PPolicy, v = .tuple #[.agg (Ph.enc x).toArray, Bo (policyIs s)] ∧ x.lg = policyOf s ∧ Fresh w x w')) := by
 refine enterN 52 Tryd.func9 rfl rfl rfl ?_
 have hs := Sat.start w
 refine WC.seq ?_
 refine WL.r Q0 (Yr.alloc hs zt26) ?_
 clear hs; rintro _ w ⟨b1, rfl, hb, hs⟩; clear hb
 refine Qa ?_
 refine WL.next ?_
 refine WC.seq' ?_
 refine WC.seq ?_
 refine Qm ?_
 refine WL.p Q0 (Yl.eqs Q0 Q0) ?_
 refine WL.next ?_
 refine WC.condS Q0 (fun h1 => ?_) (fun h1 => ?_)
 ·
  replace h1 := of_decide_eq_true h1
  refine WC.seq ?_
  refine WL.p Q0 (Yl.build bt26 Q0 Q4) ?_
  refine WL.s (Yr.storeB hs Q0 Q0 Q0 Q5 Q3 Q0 (by exact szf26)) ?_
  clear hs; rintro _ w hs
  refine Qa ?_
  refine WL.next ?_
  refine WC.ret ?_
  refine At.thenret ?_
  refine fin2c rfl agg26 Q0 Q0 hs Q1 Q0 ?_
  refine Ret.mk hs ?_
  have hb9 : policyIs s = true := policyIs_nil h1
  exact ⟨⟨false, ⟨[], none, 0⟩, ⟨[], none, 0⟩, ⟨[], none, 0⟩, []⟩, by rw [hb9]; rfl, (policyOf_no (.inl h1)).symm, ⟨⟨[], PPolicy.zown _, .nil, fun b h => by cases h⟩⟩⟩
 ·
  replace h1 := of_decide_eq_false h1
  refine WC.skipn ?_
  refine WC.seq ?_
  refine Qm ?_
  refine WL.call hs Q0 (Yc.func Q0 fn50) (c_strings_Split _ _ _ Q10 Q0 (by first | assumption | exact Sat.cellm hs (by assumption))) ?_
  have hs0 := hs; clear hs; intro v w hb hR hs; clear hs
  obtain ⟨x2, rfl, hx2, hf2⟩ := hR
  obtain ⟨F2, hs⟩ := hf2.sat hs0 hb; clear hs0 hf2
  have hle2 := Sl.Ok.le (hs.okow (x := x2) (F := F2) Q1)
  refine Qa ?_
  refine WL.next ?_
  refine WC.seq' ?_
  refine WC.seq ?_
  refine Qm ?_
  refine WL.p Q0 (Yl.len_sl slu24 Q0) ?_
  refine WL.p Q0 (Yl.lss Q0 Q0) ?_
  refine WL.next ?_
  refine WC.condS Q0 (fun h2 => ?_) (fun h2 => ?_)
  ·
   replace h2 := of_decide_eq_true h2
   refine WC.seq ?_
   refine WL.p Q0 (Yl.build bt26 Q0 Q4) ?_
   refine WL.s (Yr.storeB hs Q0 Q0 Q0 Q5 Q3 Q0 (by exact szf26)) ?_
   clear hs; rintro _ w hs
   refine Qa ?_
   refine WL.next ?_
   refine WC.ret ?_
   refine At.thenret ?_
   refine fin2c rfl agg26 Q0 Q0 hs Q1 Q0 ?_
   refine Ret.mk hs ?_
   have hb9 : policyIs s = false := policyIs_short h1 (by rw [← show x2.l = splitC 59 s from hx2]; omega)
   exact ⟨⟨false, ⟨[], none, 0⟩, ⟨[], none, 0⟩, ⟨[], none, 0⟩, []⟩, by rw [hb9]; rfl, (policyOf_no (.inr hb9)).symm, ⟨⟨[], PPolicy.zown _, .nil, fun b h => by cases h⟩⟩⟩
  ·
   replace h2 := of_decide_eq_false h2
   have h39 := getD_len (s := s) (i := 3)
   rw [← show x2.l = splitC 59 s from hx2] at h39
   refine WC.skipn ?_
   refine WC.seq ?_
   refine WL.p Q0 (Yl.buildArr arr77 szf24 zt77) ?_
   refine WL.r Q0 (Yr.alloc hs zt77) ?_
   clear hs; rintro _ w ⟨b3, rfl, hb, hs⟩; clear hb
   refine WL.s (Yr.storeB hs Q0 Q0 Q0 Q5 Q3 Q0 (by exact szf77)) ?_
   clear hs; rintro _ w hs
   refine WL.next ?_
   refine WC.seq' ?_
   refine WC.seq ?_
   refine Qm ?_
   refine WL.next ?_
   refine WC.block ?_
   refine WC.loopN 4 ?_
   refine WR.succ ?_
   refine WC.seq ?_
   refine WL.p Q0 (Yl.lss Q0 Q0) ?_
   refine WL.next ?_
   refine WC.seq' ?_
   refine WC.condT Q0 ?_
   refine WC.skipn ?_
   refine WC.seq' ?_
   refine WC.block ?_
   refine WC.seq ?_
   refine Qm ?_
   refine Qa ?_
   refine WL.next ?_
   refine WC.region ?_
   refine Qm ?_
   refine Qm ?_
   refine Qm ?_
   refine WL.p Q0 (Yl.indexAddr (k := 0) slt24 Q0 Q0 (hs.okow (x := x2) (F := F2) Q1) Q0 ((getD_some (i := 0) (z := ([] : Str)) Q7))) ?_
   refine WL.p Q0 (Yl.loadC0 sca9 Q0 (Sl.Ok.at_ (hs.okow (x := x2) (F := F2) Q1) ((getD_some (i := 0) (z := ([] : Str)) Q7))).2 Q0) ?_
   refine WL.call hs Q0 (Yc.func Q0 fn50) (c_strings_Split _ _ _ (by first | (have := getD_len (s := s) (i := 0); rw [← show x2.l = splitC 59 s from hx2] at this; omega) | (have := getD_len (s := s) (i := 1); rw [← show x2.l = splitC 59 s from hx2] at this; omega) | (have := getD_len (s := s) (i := 2); rw [← show x2.l = splitC 59 s from hx2] at this; omega) | (have := getD_len (s := s) (i := 3); rw [← show x2.l = splitC 59 s from hx2] at this; omega)) Q0 (by first | assumption | exact Sat.cellm hs (by assumption))) ?_
   have hs0 := hs; clear hs; intro v w hb hR hs; clear hs
   obtain ⟨x4, rfl, hx4, hf4⟩ := hR
   obtain ⟨F4, hs⟩ := hf4.sat hs0 hb; clear hs0 hf4
   have hle4 := Sl.Ok.le (hs.okow (x := x4) (F := F4) Q1)
   refine WL.p Q0 (Yl.slice_sl (s := x4) (l := 1) (h := x4.l.length) slt24 Q0 hle4 (by exact ⟨_, by rfl⟩) (by exact rfl) (by rw [hx4]; exact List.length_pos_iff.2 (splitC_ne _ _)) (by exact Nat.le_refl _)) ?_
   refine WL.p Q0 (Yl.indexArr (i := 0) arr77 szf24 Q0 Q0 Q0 (by decide)) ?_
   refine WL.s (Yr.storeB hs Q0 Q0 Q0 Q5 Q3 Q0 (by exact szf24)) ?_
   clear hs; rintro _ w hs
   refine WL.nil ?_
   refine At.blocknormal ?_
   refine At.then_ ?_
   refine WC.region ?_
   refine WL.p Q0 (Yl.add Q0 Q0 Q7) ?_
   refine Qm ?_
   refine WL.nil ?_
   refine At.roundN ?_
   refine WR.succ ?_
   refine WC.seq ?_
   refine WL.p Q0 (Yl.lss Q0 Q0) ?_
   refine WL.next ?_
   refine WC.seq' ?_
   refine WC.condT Q0 ?_
   refine WC.skipn ?_
   refine WC.seq' ?_
   refine WC.block ?_
   refine WC.seq ?_
   refine Qm ?_
   refine Qa ?_
   refine WL.next ?_
   refine WC.region ?_
   refine Qm ?_
   refine Qm ?_
   refine Qm ?_
   refine WL.p Q0 (Yl.indexAddr (k := 1) slt24 Q0 Q0 (hs.okow (x := x2) (F := F2) Q1) Q0 ((getD_some (i := 1) (z := ([] : Str)) Q7))) ?_
   refine WL.p Q0 (Yl.loadC0 sca9 Q0 (Sl.Ok.at_ (hs.okow (x := x2) (F := F2) Q1) ((getD_some (i := 1) (z := ([] : Str)) Q7))).2 Q0) ?_
   refine WL.call hs Q0 (Yc.func Q0 fn50) (c_strings_Split _ _ _ (by first | (have := getD_len (s := s) (i := 0); rw [← show x2.l = splitC 59 s from hx2] at this; omega) | (have := getD_len (s := s) (i := 1); rw [← show x2.l = splitC 59 s from hx2] at this; omega) | (have := getD_len (s := s) (i := 2); rw [← show x2.l = splitC 59 s from hx2] at this; omega) | (have := getD_len (s := s) (i := 3); rw [← show x2.l = splitC 59 s from hx2] at this; omega)) Q0 (by first | assumption | exact Sat.cellm hs (by assumption))) ?_
   have hs0 := hs; clear hs; intro v w hb hR hs; clear hs
   obtain ⟨x5, rfl, hx5, hf5⟩ := hR
   obtain ⟨F5, hs⟩ := hf5.sat hs0 hb; clear hs0 hf5
   have hle5 := Sl.Ok.le (hs.okow (x := x5) (F := F5) Q1)
   refine WL.p Q0 (Yl.slice_sl (s := x5) (l := 1) (h := x5.l.length) slt24 Q0 hle5 (by exact ⟨_, by rfl⟩) (by exact rfl) (by rw [hx5]; exact List.length_pos_iff.2 (splitC_ne _ _)) (by exact Nat.le_refl _)) ?_
   refine WL.p Q0 (Yl.indexArr (i := 1) arr77 szf24 Q0 Q0 Q0 (by decide)) ?_
   refine WL.s (Yr.storeB hs Q0 Q0 Q0 Q5 Q3 Q0 (by exact szf24)) ?_
   clear hs; rintro _ w hs
   refine WL.nil ?_
   refine At.blocknormal ?_
   refine At.then_ ?_
   refine WC.region ?_
   refine WL.p Q0 (Yl.add Q0 Q0 Q7) ?_
   refine Qm ?_
   refine WL.nil ?_
   refine At.roundN ?_
   refine WR.succ ?_
   refine WC.seq ?_
   refine WL.p Q0 (Yl.lss Q0 Q0) ?_
   refine WL.next ?_
   refine WC.seq' ?_
   refine WC.condT Q0 ?_
   refine WC.skipn ?_
   refine WC.seq' ?_
   refine WC.block ?_
   refine WC.seq ?_
   refine Qm ?_
   refine Qa ?_
   refine WL.next ?_
   refine WC.region ?_
   refine Qm ?_
   refine Qm ?_
   refine Qm ?_
   refine WL.p Q0 (Yl.indexAddr (k := 2) slt24 Q0 Q0 (hs.okow (x := x2) (F := F2) Q1) Q0 ((getD_some (i := 2) (z := ([] : Str)) Q7))) ?_
   refine WL.p Q0 (Yl.loadC0 sca9 Q0 (Sl.Ok.at_ (hs.okow (x := x2) (F := F2) Q1) ((getD_some (i := 2) (z := ([] : Str)) Q7))).2 Q0) ?_
   refine WL.call hs Q0 (Yc.func Q0 fn50) (c_strings_Split _ _ _ (by first | (have := getD_len (s := s) (i := 0); rw [← show x2.l = splitC 59 s from hx2] at this; omega) | (have := getD_len (s := s) (i := 1); rw [← show x2.l = splitC 59 s from hx2] at this; omega) | (have := getD_len (s := s) (i := 2); rw [← show x2.l = splitC 59 s from hx2] at this; omega) | (have := getD_len (s := s) (i := 3); rw [← show x2.l = splitC 59 s from hx2] at this; omega)) Q0 (by first | assumption | exact Sat.cellm hs (by assumption))) ?_
   have hs0 := hs; clear hs; intro v w hb hR hs; clear hs
   obtain ⟨x6, rfl, hx6, hf6⟩ := hR
   obtain ⟨F6, hs⟩ := hf6.sat hs0 hb; clear hs0 hf6
   have hle6 := Sl.Ok.le (hs.okow (x := x6) (F := F6) Q1)
   refine WL.p Q0 (Yl.slice_sl (s := x6) (l := 1) (h := x6.l.length) slt24 Q0 hle6 (by exact ⟨_, by rfl⟩) (by exact rfl) (by rw [hx6]; exact List.length_pos_iff.2 (splitC_ne _ _)) (by exact Nat.le_refl _)) ?_
   refine WL.p Q0 (Yl.indexArr (i := 2) arr77 szf24 Q0 Q0 Q0 (by decide)) ?_
   refine WL.s (Yr.storeB hs Q0 Q0 Q0 Q5 Q3 Q0 (by exact szf24)) ?_
   clear hs; rintro _ w hs
   refine WL.nil ?_
   refine At.blocknormal ?_
   refine At.then_ ?_
   refine WC.region ?_
   refine WL.p Q0 (Yl.add Q0 Q0 Q7) ?_
   refine Qm ?_
   refine WL.nil ?_
   refine At.roundN ?_
   refine WR.succ ?_
   refine WC.seq ?_
   refine WL.p Q0 (Yl.lss Q0 Q0) ?_
   refine WL.next ?_
   refine WC.seq' ?_
   refine WC.condF Q0 ?_
   refine WC.exit ?_
   refine At.thenexit ?_
   refine At.thenexit ?_
   refine At.blockexit ?_
   refine At.then_ ?_
   refine WC.seq ?_
   refine WL.p Q0 (Yl.indexArr (i := 0) arr77 szf24 Q0 Q0 Q0 (by decide)) ?_
   refine WL.p Q0 (Yl.loadB sca24 Q0 hs Q1 Q0) ?_
   refine WL.p Q0 (Yl.indexArr (i := 1) arr77 szf24 Q0 Q0 Q0 (by decide)) ?_
   refine WL.p Q0 (Yl.loadB sca24 Q0 hs Q1 Q0) ?_
   refine WL.p Q0 (Yl.indexArr (i := 2) arr77 szf24 Q0 Q0 Q0 (by decide)) ?_
   refine WL.p Q0 (Yl.loadB sca24 Q0 hs Q1 Q0) ?_
   refine WL.p Q0 (Yl.build bt26 Q0 Q4) ?_
   refine WL.r Q0 (Yr.alloc hs zt26) ?_
   clear hs; rintro _ w ⟨b7, rfl, hb, hs⟩; clear hb
   refine WL.s (Yr.storeB hs Q0 Q0 Q0 Q5 Q3 Q0 (by exact szf26)) ?_
   clear hs; rintro _ w hs
   refine WL.next ?_
   refine WC.seq' ?_
   refine WC.seq ?_
   refine Qm ?_
   refine WL.p Q0 (Yl.len_sl slu24 Q0) ?_
   refine WL.p Q0 (Yl.gtr Q0 Q0) ?_
   refine WL.next ?_
   refine WC.condS Q0 (fun h3 => ?_) (fun h3 => ?_)
   ·
    replace h3 := of_decide_eq_true h3
    refine WC.region ?_
    refine Qm ?_
    refine WL.p Q0 (Yl.indexAddr (k := 3) slt24 Q0 Q0 (hs.okow (x := x2) (F := F2) Q1) Q0 ((getD_some (i := 3) (z := ([] : Str)) Q7))) ?_
    refine WL.p Q0 (Yl.loadC0 sca9 Q0 (Sl.Ok.at_ (hs.okow (x := x2) (F := F2) Q1) ((getD_some (i := 3) (z := ([] : Str)) Q7))).2 Q0) ?_
    refine WL.callp hs Q0 (Yc.func Q0 fn51) (c_strings_TrimPrefix _ _ _) ?_
    clear hs; intro w hs
    refine WL.p Q0 (Yl.fieldAddr fa26_4 Q0) ?_
    refine WL.s (Yr.storeB hs Q0 Q0 Q0 Q5 Q3 Q0 (by exact szf9)) ?_
    clear hs; rintro _ w hs
    refine WL.nil ?_
    refine At.then_ ?_
    refine WC.seq' ?_
    refine WC.seq ?_
    refine WL.p Q0 (Yl.loadAB agg26 Q0 hs Q1 Q0 Q0) ?_
    have hpl9 : PPolicy.lg (⟨true, (x4.cut 1 x4.l.length), (x5.cut 1 x5.l.length), (x6.cut 1 x6.l.length), (nonceI (x2.l.getD 3 []))⟩ : PPolicy) = polI s := by
     have e2 : x2.l = splitC 59 s := hx2
     have g0 : x4.l = splitC 32 ((splitC 59 s).getD 0 []) := by rw [← e2]; exact hx4
     have g1 : x5.l = splitC 32 ((splitC 59 s).getD 1 []) := by rw [← e2]; exact hx5
     have g2 : x6.l = splitC 32 ((splitC 59 s).getD 2 []) := by rw [← e2]; exact hx6
     have c0 : (x4.cut 1 x4.l.length).l = (splitC 32 ((splitC 59 s).getD 0 [])).tail := by rw [Sl.cut_full, g0, List.drop_one]
     have c1 : (x5.cut 1 x5.l.length).l = (splitC 32 ((splitC 59 s).getD 1 [])).tail := by rw [Sl.cut_full, g1, List.drop_one]
     have c2 : (x6.cut 1 x6.l.length).l = (splitC 32 ((splitC 59 s).getD 2 [])).tail := by rw [Sl.cut_full, g2, List.drop_one]
     simp only [PPolicy.lg, polI, polOf, c0, c1, c2, TPolicy.mk.injEq, true_and]
     rw [← e2]
     first
      | (rw [if_neg (show ¬ 3 < x2.l.length from fun h => by omega)]; done)
      | (rw [if_pos (show 3 < x2.l.length from Int.ofNat_lt.1 Q7)]; done)
      | (rw [if_pos (show 3 < x2.l.length from Int.ofNat_lt.1 Q7)]
         simp only [nonceS, nonceI]
         first
           | (rfl; done)
           | (rw [if_neg Q7]; done)
           | (rw [if_pos Q7, List.take_of_length_le (by simp)]; done)
           | (rw [if_pos Q7]; done))
    refine WL.callp hs Q0 (Yc.func Q0 fn10) (c_impl_FormatPolicy (⟨true, (x4.cut 1 x4.l.length), (x5.cut 1 x5.l.length), (x6.cut 1 x6.l.length), (nonceI (x2.l.getD 3 []))⟩ : PPolicy) _ ⟨trivial, (Sl.Ok.cut (hs.okow (x := x4) (F := F4) Q1) (by rw [hx4]; exact List.length_pos_iff.2 (splitC_ne _ _)) (by exact Nat.le_refl _)), (Sl.Ok.cut (hs.okow (x := x5) (F := F5) Q1) (by rw [hx5]; exact List.length_pos_iff.2 (splitC_ne _ _)) (by exact Nat.le_refl _)), (Sl.Ok.cut (hs.okow (x := x6) (F := F6) Q1) (by rw [hx6]; exact List.length_pos_iff.2 (splitC_ne _ _)) (by exact Nat.le_refl _)), (show WfS _ from Nat.le_trans (nonceI_len _) Q7)⟩ (by rw [hpl9]; have := polI_size (s := s) (by rw [← show x2.l = splitC 59 s from hx2]; omega); omega)) ?_
    clear hs; intro w hs
    refine Qm ?_
    refine WL.p Q0 (Yl.nes Q0 Q0) ?_
    refine WL.next ?_
    refine WC.condS Q0 (fun h4 => ?_) (fun h4 => ?_)
    ·
     replace h4 := not_eq_true h4
     replace h4 := of_decide_eq_false h4
     refine WC.seq ?_
     refine WL.p Q0 (Yl.build bt26 Q0 Q4) ?_
     refine WL.s (Yr.storeB hs Q0 Q0 Q0 Q5 Q3 Q0 (by exact szf26)) ?_
     clear hs; rintro _ w hs
     refine Qa ?_
     refine WL.next ?_
     refine WC.ret ?_
     refine At.thenret ?_
     refine fin2c rfl agg26 Q0 Q0 hs Q1 Q0 ?_
     refine Ret.mk hs ?_
     rw [hpl9] at h4
     have hb9 : policyIs s = false := policyIs_badI h1 h4
     exact ⟨⟨false, ⟨[], none, 0⟩, ⟨[], none, 0⟩, ⟨[], none, 0⟩, []⟩, by rw [hb9]; rfl, (policyOf_no (.inr hb9)).symm, ⟨⟨[], PPolicy.zown _, .nil, fun b h => by cases h⟩⟩⟩
    ·
     replace h4 := not_eq_false h4
     replace h4 := of_decide_eq_true h4
     refine WC.skipn ?_
     refine WC.seq ?_
     refine WL.p Q0 (Yl.loadAB agg26 Q0 hs Q1 Q0 Q0) ?_
     refine WL.call hs Q0 (Yc.func Q0 fn52) (c_impl_copyPolicy (⟨true, (x4.cut 1 x4.l.length), (x5.cut 1 x5.l.length), (x6.cut 1 x6.l.length), (nonceI (x2.l.getD 3 []))⟩ : PPolicy) _ ⟨trivial, (Sl.Ok.cut (hs.okow (x := x4) (F := F4) Q1) (by rw [hx4]; exact List.length_pos_iff.2 (splitC_ne _ _)) (by exact Nat.le_refl _)), (Sl.Ok.cut (hs.okow (x := x5) (F := F5) Q1) (by rw [hx5]; exact List.length_pos_iff.2 (splitC_ne _ _)) (by exact Nat.le_refl _)), (Sl.Ok.cut (hs.okow (x := x6) (F := F6) Q1) (by rw [hx6]; exact List.length_pos_iff.2 (splitC_ne _ _)) (by exact Nat.le_refl _)), (show WfS _ from Nat.le_trans (nonceI_len _) Q7)⟩ (by rw [hpl9]; have := polI_size (s := s) (by rw [← show x2.l = splitC 59 s from hx2]; omega); omega)) ?_
     have hs0 := hs; clear hs; intro v w hb hR hs; clear hs
     obtain ⟨x8, rfl, hx8, hf8⟩ := hR
     obtain ⟨F8, hs⟩ := hf8.sat hs0 hb; clear hs0 hf8
     refine WL.s (Yr.storeB hs Q0 Q0 Q0 Q5 Q3 Q0 (by exact szf26)) ?_
     clear hs; rintro _ w hs
     refine Qa ?_
     refine WL.next ?_
     refine WC.ret ?_
     refine fin2c rfl agg26 Q0 Q0 hs Q1 Q0 ?_
     refine Ret.mk hs ?_
     rw [hpl9] at h4
     have hq9 : x2.l = splitC 59 s := hx2
     have h49 : 3 ≤ (splitC 59 s).length := by rw [← hq9]; omega
     have hb9 : policyIs s = true := policyIs_goodI h1 h4 h49
     exact ⟨x8, by rw [hb9]; try rfl, hx8.trans (hpl9.trans (policyOf_goodI h1 hb9 h4).symm), hs.fresh Q1⟩
   ·
    replace h3 := of_decide_eq_false h3
    refine WC.skipn ?_
    refine WC.seq' ?_
    refine WC.seq ?_
    refine WL.p Q0 (Yl.loadAB agg26 Q0 hs Q1 Q0 Q0) ?_
    have hpl9 : PPolicy.lg (⟨true, (x4.cut 1 x4.l.length), (x5.cut 1 x5.l.length), (x6.cut 1 x6.l.length), ([] : Str)⟩ : PPolicy) = polI s := by
     have e2 : x2.l = splitC 59 s := hx2
     have g0 : x4.l = splitC 32 ((splitC 59 s).getD 0 []) := by rw [← e2]; exact hx4
     have g1 : x5.l = splitC 32 ((splitC 59 s).getD 1 []) := by rw [← e2]; exact hx5
     have g2 : x6.l = splitC 32 ((splitC 59 s).getD 2 []) := by rw [← e2]; exact hx6
     have c0 : (x4.cut 1 x4.l.length).l = (splitC 32 ((splitC 59 s).getD 0 [])).tail := by rw [Sl.cut_full, g0, List.drop_one]
     have c1 : (x5.cut 1 x5.l.length).l = (splitC 32 ((splitC 59 s).getD 1 [])).tail := by rw [Sl.cut_full, g1, List.drop_one]
     have c2 : (x6.cut 1 x6.l.length).l = (splitC 32 ((splitC 59 s).getD 2 [])).tail := by rw [Sl.cut_full, g2, List.drop_one]
     simp only [PPolicy.lg, polI, polOf, c0, c1, c2, TPolicy.mk.injEq, true_and]
     rw [← e2]
     first
      | (rw [if_neg (show ¬ 3 < x2.l.length from fun h => by omega)]; done)
      | (rw [if_pos (show 3 < x2.l.length from Int.ofNat_lt.1 Q7)]; done)
      | (rw [if_pos (show 3 < x2.l.length from Int.ofNat_lt.1 Q7)]
         simp only [nonceS, nonceI]
         first
           | (rfl; done)
           | (rw [if_neg Q7]; done)
           | (rw [if_pos Q7, List.take_of_length_le (by simp)]; done)
           | (rw [if_pos Q7]; done))
    refine WL.callp hs Q0 (Yc.func Q0 fn10) (c_impl_FormatPolicy (⟨true, (x4.cut 1 x4.l.length), (x5.cut 1 x5.l.length), (x6.cut 1 x6.l.length), ([] : Str)⟩ : PPolicy) _ ⟨trivial, (Sl.Ok.cut (hs.okow (x := x4) (F := F4) Q1) (by rw [hx4]; exact List.length_pos_iff.2 (splitC_ne _ _)) (by exact Nat.le_refl _)), (Sl.Ok.cut (hs.okow (x := x5) (F := F5) Q1) (by rw [hx5]; exact List.length_pos_iff.2 (splitC_ne _ _)) (by exact Nat.le_refl _)), (Sl.Ok.cut (hs.okow (x := x6) (F := F6) Q1) (by rw [hx6]; exact List.length_pos_iff.2 (splitC_ne _ _)) (by exact Nat.le_refl _)), (show WfS [] from Nat.zero_le _)⟩ (by rw [hpl9]; have := polI_size (s := s) (by rw [← show x2.l = splitC 59 s from hx2]; omega); omega)) ?_
    clear hs; intro w hs
    refine Qm ?_
    refine WL.p Q0 (Yl.nes Q0 Q0) ?_
    refine WL.next ?_
    refine WC.condS Q0 (fun h4 => ?_) (fun h4 => ?_)
    ·
     replace h4 := not_eq_true h4
     replace h4 := of_decide_eq_false h4
     refine WC.seq ?_
     refine WL.p Q0 (Yl.build bt26 Q0 Q4) ?_
     refine WL.s (Yr.storeB hs Q0 Q0 Q0 Q5 Q3 Q0 (by exact szf26)) ?_
     clear hs; rintro _ w hs
     refine Qa ?_
     refine WL.next ?_
     refine WC.ret ?_
     refine At.thenret ?_
     refine fin2c rfl agg26 Q0 Q0 hs Q1 Q0 ?_
     refine Ret.mk hs ?_
     rw [hpl9] at h4
     have hb9 : policyIs s = false := policyIs_badI h1 h4
     exact ⟨⟨false, ⟨[], none, 0⟩, ⟨[], none, 0⟩, ⟨[], none, 0⟩, []⟩, by rw [hb9]; rfl, (policyOf_no (.inr hb9)).symm, ⟨⟨[], PPolicy.zown _, .nil, fun b h => by cases h⟩⟩⟩
    ·
     replace h4 := not_eq_false h4
     replace h4 := of_decide_eq_true h4
     refine WC.skipn ?_
     refine WC.seq ?_
     refine WL.p Q0 (Yl.loadAB agg26 Q0 hs Q1 Q0 Q0) ?_
     refine WL.call hs Q0 (Yc.func Q0 fn52) (c_impl_copyPolicy (⟨true, (x4.cut 1 x4.l.length), (x5.cut 1 x5.l.length), (x6.cut 1 x6.l.length), ([] : Str)⟩ : PPolicy) _ ⟨trivial, (Sl.Ok.cut (hs.okow (x := x4) (F := F4) Q1) (by rw [hx4]; exact List.length_pos_iff.2 (splitC_ne _ _)) (by exact Nat.le_refl _)), (Sl.Ok.cut (hs.okow (x := x5) (F := F5) Q1) (by rw [hx5]; exact List.length_pos_iff.2 (splitC_ne _ _)) (by exact Nat.le_refl _)), (Sl.Ok.cut (hs.okow (x := x6) (F := F6) Q1) (by rw [hx6]; exact List.length_pos_iff.2 (splitC_ne _ _)) (by exact Nat.le_refl _)), (show WfS [] from Nat.zero_le _)⟩ (by rw [hpl9]; have := polI_size (s := s) (by rw [← show x2.l = splitC 59 s from hx2]; omega); omega)) ?_
     have hs0 := hs; clear hs; intro v w hb hR hs; clear hs
     obtain ⟨x9, rfl, hx9, hf9⟩ := hR
     obtain ⟨F9, hs⟩ := hf9.sat hs0 hb; clear hs0 hf9
     refine WL.s (Yr.storeB hs Q0 Q0 Q0 Q5 Q3 Q0 (by exact szf26)) ?_
     clear hs; rintro _ w hs
     refine Qa ?_
     refine WL.next ?_
     refine WC.ret ?_
     refine fin2c rfl agg26 Q0 Q0 hs Q1 Q0 ?_
     refine Ret.mk hs ?_
     rw [hpl9] at h4
     have hq9 : x2.l = splitC 59 s := hx2
     have h49 : 3 ≤ (splitC 59 s).length := by rw [← hq9]; omega
     have hb9 : policyIs s = true := policyIs_goodI h1 h4 h49
     exact ⟨x9, by rw [hb9]; try rfl, hx9.trans (hpl9.trans (policyOf_goodI h1 hb9 h4).symm), hs.fresh Q1⟩

theorem c_impl_IsResponse (x : TResponse) (w : World) (h_x : Ph.ok w x) (hb : x.policy.length ≤ 1048576) (hm_ : ∃ m, w.cell? ⟨0, 0, none⟩ = some (.int .i64 m)) : Calls Tryd.prog 43 [.agg #[I x.status, I x.kind, S x.body, I x.age, Bo x.shares, S x.policy]].toArray w (RetP w (Bo x.isv)) := by
 refine enterN 33 Tryd.func43 rfl rfl rfl ?_
 have hs := Sat.start w
 refine WC.seq ?_
 refine WL.r Q0 (Yr.box hs Q0 Q0) ?_
 clear hs; rintro _ w ⟨b1, rfl, hb, hs⟩; clear hb
 refine Qa ?_
 refine WL.next ?_
 refine WC.seq ?_
 refine WL.p Q0 (Yl.fieldAddr fa45_5 Q0) ?_
 refine WL.p Q0 (Yl.loadB sca9 Q0 hs Q1 Q0) ?_
 refine WL.call hs Q0 (Yc.func Q0 fn9) (c_impl_ParsePolicy _ _ Q10 (by first | assumption | exact Sat.cellm hs (by assumption))) ?_
 have hs0 := hs; clear hs; intro v w hb hR hs; clear hs
 obtain ⟨x2, rfl, hx2, hf2⟩ := hR
 obtain ⟨F2, hs⟩ := hf2.sat hs0 hb; clear hs0 hf2
 refine Qm ?_
 refine WL.p Q0 (Yl.extract Q0 Q0) ?_
 refine WL.p Q0 (Yl.extract Q0 Q0) ?_
 refine WL.r Q0 (Yr.alloc hs zt26) ?_
 clear hs; rintro _ w ⟨b3, rfl, hb, hs⟩; clear hb
 refine WL.s (Yr.storeB hs Q0 Q0 Q0 Q5 Q3 Q0 (by exact szf26)) ?_
 clear hs; rintro _ w hs
 refine Qa ?_
 refine WL.next ?_
 refine WC.seq ?_
 refine Qm ?_
 refine Qm ?_
 refine WL.split (d := 12) Q0 (fun h1 => ?_) (fun h1 => ?_)
 ·
  refine WL.run (d := 12) Q0 Q0 ?_
  refine WL.p Q0 (Yl.fieldAddr fa45_0 Q0) ?_
  refine WL.run (d := 12) Q0 Q0 ?_
  refine WL.p Q0 (Yl.loadB sca3 Q0 hs Q1 Q0) ?_
  refine WL.run (d := 12) Q0 Q0 ?_
  refine WL.callp hs Q0 (Yc.func Q0 fn73) (c_impl_InRange _ _ _ _) ?_
  clear hs; intro w hs
  refine WL.p Q0 (Yl.pickT Q0 Q0) ?_
  refine Qm ?_
  refine WL.split (d := 17) Q0 (fun h2 => ?_) (fun h2 => ?_)
  ·
   replace h2 := inR_true.1 h2
   refine WL.run (d := 17) Q0 Q0 ?_
   refine WL.p Q0 (Yl.fieldAddr fa45_1 Q0) ?_
   refine WL.run (d := 17) Q0 Q0 ?_
   refine WL.p Q0 (Yl.loadB sca3 Q0 hs Q1 Q0) ?_
   refine WL.run (d := 17) Q0 Q0 ?_
   refine WL.callp hs Q0 (Yc.func Q0 fn73) (c_impl_InRange _ _ _ _) ?_
   clear hs; intro w hs
   refine WL.p Q0 (Yl.pickT Q0 Q0) ?_
   refine Qm ?_
   refine WL.split (d := 22) Q0 (fun h3 => ?_) (fun h3 => ?_)
   ·
    replace h3 := inR_true.1 h3
    refine WL.run (d := 22) Q0 Q0 ?_
    refine WL.p Q0 (Yl.fieldAddr fa45_2 Q0) ?_
    refine WL.run (d := 22) Q0 Q0 ?_
    refine WL.p Q0 (Yl.loadB sca9 Q0 hs Q1 Q0) ?_
    refine WL.run (d := 22) Q0 Q0 ?_
    refine WL.p Q0 (Yl.len_str str9 Q0) ?_
    refine WL.run (d := 22) Q0 Q0 ?_
    refine WL.p Q0 (Yl.leq Q0 Q0) ?_
    refine WL.p Q0 (Yl.pickT Q0 Q0) ?_
    refine Qm ?_
    refine WL.split (d := 28) Q0 (fun h4 => ?_) (fun h4 => ?_)
    ·
     replace h4 := of_decide_eq_true h4
     refine WL.run (d := 28) Q0 Q0 ?_
     refine WL.p Q0 (Yl.fieldAddr fa45_3 Q0) ?_
     refine WL.run (d := 28) Q0 Q0 ?_
     refine WL.p Q0 (Yl.loadB sca3 Q0 hs Q1 Q0) ?_
     refine WL.run (d := 28) Q0 Q0 ?_
     refine WL.callp hs Q0 (Yc.func Q0 fn73) (c_impl_InRange _ _ _ _) ?_
     clear hs; intro w hs
     refine WL.p Q0 (Yl.pickT Q0 Q0) ?_
     refine Qa ?_
     refine WL.next ?_
     refine WC.ret ?_
     refine fin1' rfl Q0 ?_
     refine RetP.mk hs ?_
     clear hs hb h_x
     try simp only [← inR_true] at *
     try simp only [← inR_false] at *
     simp_all [TResponse.isv]
     try (intro hh; omega)
    ·
     replace h4 := of_decide_eq_false h4
     refine WL.skip (d := 28) Q0 Q0 Q0 Q0 ?_
     refine WL.skip (d := 28) Q0 Q0 Q0 Q0 ?_
     refine WL.skip (d := 28) Q0 Q0 Q0 Q0 ?_
     refine WL.p Q0 (Yl.pickF Q0 Q0) ?_
     refine Qa ?_
     refine WL.next ?_
     refine WC.ret ?_
     refine fin1' rfl Q0 ?_
     refine RetP.mk hs ?_
     clear hs hb h_x
     try simp only [← inR_true] at *
     try simp only [← inR_false] at *
     simp_all [TResponse.isv]
     try (intro hh; omega)
   ·
    replace h3 := inR_false.1 h3
    refine WL.skip (d := 22) Q0 Q0 Q0 Q0 ?_
    refine WL.skip (d := 22) Q0 Q0 Q0 Q0 ?_
    refine WL.skip (d := 22) Q0 Q0 Q0 Q0 ?_
    refine WL.skip (d := 22) Q0 Q0 Q0 Q0 ?_
    refine WL.p Q0 (Yl.pickF Q0 Q0) ?_
    refine Qm ?_
    refine WL.skip (d := 28) Q0 Q0 Q0 Q0 ?_
    refine WL.skip (d := 28) Q0 Q0 Q0 Q0 ?_
    refine WL.skip (d := 28) Q0 Q0 Q0 Q0 ?_
    refine WL.p Q0 (Yl.pickF Q0 Q0) ?_
    refine Qa ?_
    refine WL.next ?_
    refine WC.ret ?_
    refine fin1' rfl Q0 ?_
    refine RetP.mk hs ?_
    clear hs hb h_x
    try simp only [← inR_true] at *
    try simp only [← inR_false] at *
    simp_all [TResponse.isv]
    try (intro hh; omega)
  ·
   replace h2 := inR_false.1 h2
   refine WL.skip (d := 17) Q0 Q0 Q0 Q0 ?_
   refine WL.skip (d := 17) Q0 Q0 Q0 Q0 ?_
   refine WL.skip (d := 17) Q0 Q0 Q0 Q0 ?_
   refine WL.p Q0 (Yl.pickF Q0 Q0) ?_
   refine Qm ?_
   refine WL.skip (d := 22) Q0 Q0 Q0 Q0 ?_
   refine WL.skip (d := 22) Q0 Q0 Q0 Q0 ?_
   refine WL.skip (d := 22) Q0 Q0 Q0 Q0 ?_
   refine WL.skip (d := 22) Q0 Q0 Q0 Q0 ?_
   refine WL.p Q0 (Yl.pickF Q0 Q0) ?_
   refine Qm ?_
   refine WL.skip (d := 28) Q0 Q0 Q0 Q0 ?_
   refine WL.skip (d := 28) Q0 Q0 Q0 Q0 ?_
   refine WL.skip (d := 28) Q0 Q0 Q0 Q0 ?_
   refine WL.p Q0 (Yl.pickF Q0 Q0) ?_
   refine Qa ?_
   refine WL.next ?_
   refine WC.ret ?_
   refine fin1' rfl Q0 ?_
   refine RetP.mk hs ?_
   clear hs hb h_x
   try simp only [← inR_true] at *
   try simp only [← inR_false] at *
   simp_all [TResponse.isv]
   try (intro hh; omega)
 ·
  refine WL.skip (d := 12) Q0 Q0 Q0 Q0 ?_
  refine WL.skip (d := 12) Q0 Q0 Q0 Q0 ?_
  refine WL.skip (d := 12) Q0 Q0 Q0 Q0 ?_
  refine WL.p Q0 (Yl.pickF Q0 Q0) ?_
  refine Qm ?_
  refine WL.skip (d := 17) Q0 Q0 Q0 Q0 ?_
  refine WL.skip (d := 17) Q0 Q0 Q0 Q0 ?_
  refine WL.skip (d := 17) Q0 Q0 Q0 Q0 ?_
  refine WL.p Q0 (Yl.pickF Q0 Q0) ?_
  refine Qm ?_
  refine WL.skip (d := 22) Q0 Q0 Q0 Q0 ?_
  refine WL.skip (d := 22) Q0 Q0 Q0 Q0 ?_
  refine WL.skip (d := 22) Q0 Q0 Q0 Q0 ?_
  refine WL.skip (d := 22) Q0 Q0 Q0 Q0 ?_
  refine WL.p Q0 (Yl.pickF Q0 Q0) ?_
  refine Qm ?_
  refine WL.skip (d := 28) Q0 Q0 Q0 Q0 ?_
  refine WL.skip (d := 28) Q0 Q0 Q0 Q0 ?_
  refine WL.skip (d := 28) Q0 Q0 Q0 Q0 ?_
  refine WL.p Q0 (Yl.pickF Q0 Q0) ?_
  refine Qa ?_
  refine WL.next ?_
  refine WC.ret ?_
  refine fin1' rfl Q0 ?_
  refine RetP.mk hs ?_
  clear hs hb h_x
  try simp only [← inR_true] at *
  try simp only [← inR_false] at *
  simp_all [TResponse.isv]
  try (intro hh; omega)

theorem c_impl_IsServer (s : PServer) (w : World) (h_s : Ph.ok w s) (hp : ∀ f ∈ s.files.l, f.response.policy.length ≤ 1048576) (hm_ : ∃ m, w.cell? ⟨0, 0, none⟩ = some (.int .i64 m)) : Calls Tryd.prog 89 [.agg #[S s.host, Sl.v s.files]].toArray w (RetP w (Bo (serverOk s.lg))) := by
 have hw := h_s.files.lt
 refine enterN 41 Tryd.func89 rfl rfl rfl ?_
 have hs := Sat.start w
 refine WC.seq ?_
 refine WL.r Q0 (Yr.box hs Q0 Q0) ?_
 clear hs; rintro _ w ⟨b1, rfl, hb, hs⟩; clear hb
 refine Qa ?_
 refine WL.next ?_
 refine WC.seq' ?_
 refine WC.seq ?_
 refine WL.p Q0 (Yl.fieldAddr fa112_1 Q0) ?_
 refine WL.p Q0 (Yl.loadB sca110 Q0 hs Q1 Q0) ?_
 refine WL.p Q0 (Yl.len_sl slu110 Q0) ?_
 refine Qm ?_
 refine WL.next ?_
 refine WC.block ?_
 refine WC.loopC (ι := Nat) (fun k => s.files.l.length - k) (fun k => [(8, I (k : Int))]) (fun _ => []) (fun k => uniqF fileOk sameFile [] s.files.l = uniqF fileOk sameFile (s.files.l.take k) (s.files.l.drop k)) [(0, _), (1, _), (6, _), (7, _)] 0 (hs) ⟨by rfl, by rfl, by rfl, by rfl, trivial⟩ ⟨by rfl, trivial⟩ ?_ ?_
 ·
  simp
 clear hs; rintro k w hJ hs
 simp only [List.nil_append] at hs
 refine WC.seq ?_
 refine WL.p Q0 (Yl.lss Q0 Q0) ?_
 refine WL.next ?_
 refine WC.seq' ?_
 refine WC.condS Q0 (fun h1 => ?_) (fun h1 => ?_)
 ·
  replace h1 := of_decide_eq_true h1
  obtain ⟨d, hd⟩ := exists_get (l := s.files.l) (k := k) Q7
  rw [uniq_step hd] at hJ
  have hpd : d.response.policy.length ≤ 1048576 := hp d (List.mem_of_getElem? hd)
  have hix := idx_first0 (p := fun f : TFile => decide (f.path = d.path)) hd (by simp)
  replace hix : _ ↔ (s.files.l.take k).any (sameFile d) = false := hix
  generalize (s.files.l.take k).any (sameFile d) = u at hJ hix
  refine WC.skipn ?_
  refine WC.seq' ?_
  refine WC.block ?_
  refine WC.seq ?_
  refine Qm ?_
  refine WL.p Q0 (Yl.indexAddr slt110 Q0 Q0 (Ph.old h_s.files hs) Q0 (hd)) ?_
  refine WL.p Q0 (Yl.loadA agg115 Q0 (Sl.Ok.at_ (Ph.old h_s.files hs) (by assumption)).2 Q0) ?_
  refine WL.r Q0 (Yr.alloc hs zt115) ?_
  clear hs; rintro _ w ⟨b2, rfl, hb, hs⟩; clear hb
  refine Qa ?_
  refine WL.s (Yr.storeB hs Q0 Q0 Q0 Q5 Q3 Q0 (by exact szf115)) ?_
  clear hs; rintro _ w hs
  refine WL.next ?_
  refine WC.seq ?_
  refine WL.p Q0 (Yl.fieldAddr fa115_0 Q0) ?_
  refine WL.p Q0 (Yl.loadB sca9 Q0 hs Q1 Q0) ?_
  refine WL.callp hs Q0 (Yc.func Q0 fn83) (c_impl_IsName _ _ (Ph.old (Sl.Ok.elem h_s.files hd).path hs)) ?_
  clear hs; intro w hs
  refine WL.p Q0 (Yl.not Q0) ?_
  refine Qm ?_
  refine WL.split (d := 17) Q0 (fun h2 => ?_) (fun h2 => ?_)
  ·
   replace h2 := not_eq_true h2
   refine WL.skip (d := 17) Q0 Q0 Q0 Q0 ?_
   refine WL.skip (d := 17) Q0 Q0 Q0 Q0 ?_
   refine WL.skip (d := 17) Q0 Q0 Q0 Q0 ?_
   refine WL.skip (d := 17) Q0 Q0 Q0 Q0 ?_
   refine WL.skip (d := 17) Q0 Q0 Q0 Q0 ?_
   refine WL.skip (d := 17) Q0 Q0 Q0 Q0 ?_
   refine WL.p Q0 (Yl.pickT Q0 Q0) ?_
   refine Qm ?_
   refine WL.skip (d := 25) Q0 Q0 Q0 Q0 ?_
   refine WL.skip (d := 25) Q0 Q0 Q0 Q0 ?_
   refine WL.skip (d := 25) Q0 Q0 Q0 Q0 ?_
   refine WL.skip (d := 25) Q0 Q0 Q0 Q0 ?_
   refine WL.p Q0 (Yl.pickT Q0 Q0) ?_
   refine WL.next ?_
   refine WC.condT Q0 ?_
   refine WC.seq ?_
   refine Qa ?_
   refine WL.next ?_
   refine WC.ret ?_
   refine At.blockret ?_
   refine At.thenret ?_
   refine At.thenret ?_
   refine At.blockret ?_
   refine At.thenret ?_
   refine fin1' rfl Q0 ?_
   refine RetP.mk hs ?_
   simp only [serverOk, filesOk]
   simp_all [fileOk]
   try omega
  ·
   replace h2 := not_eq_false h2
   refine WL.run (d := 17) Q0 Q0 ?_
   refine WL.p Q0 (Yl.loadAB agg112 Q0 hs Q1 Q0 Q0) ?_
   refine WL.run (d := 17) Q0 Q0 ?_
   refine WL.p Q0 (Yl.fieldAddr fa115_0 Q0) ?_
   refine WL.run (d := 17) Q0 Q0 ?_
   refine WL.p Q0 (Yl.loadB sca9 Q0 hs Q1 Q0) ?_
   refine WL.run (d := 17) Q0 Q0 ?_
   refine WL.callp hs Q0 (Yc.func Q0 fn88) (c_impl_fileAt _ _ _ (Ph.old h_s hs)) ?_
   clear hs; intro w hs
   refine WL.run (d := 17) Q0 Q0 ?_
   refine Qm ?_
   refine WL.run (d := 17) Q0 Q0 ?_
   refine WL.p Q0 (Yl.nei Q0 Q0) ?_
   refine WL.p Q0 (Yl.pickF Q0 Q0) ?_
   refine Qm ?_
   refine WL.split (d := 25) Q0 (fun h3 => ?_) (fun h3 => ?_)
   ·
    replace h3 := not_eq_true h3
    replace h3 := of_decide_eq_false h3
    refine WL.skip (d := 25) Q0 Q0 Q0 Q0 ?_
    refine WL.skip (d := 25) Q0 Q0 Q0 Q0 ?_
    refine WL.skip (d := 25) Q0 Q0 Q0 Q0 ?_
    refine WL.skip (d := 25) Q0 Q0 Q0 Q0 ?_
    refine WL.p Q0 (Yl.pickT Q0 Q0) ?_
    refine WL.next ?_
    refine WC.condT Q0 ?_
    refine WC.seq ?_
    refine Qa ?_
    refine WL.next ?_
    refine WC.ret ?_
    refine At.blockret ?_
    refine At.thenret ?_
    refine At.thenret ?_
    refine At.blockret ?_
    refine At.thenret ?_
    refine fin1' rfl Q0 ?_
    refine RetP.mk hs ?_
    simp only [serverOk, filesOk]
    simp_all [fileOk]
    try omega
   ·
    replace h3 := not_eq_false h3
    replace h3 := of_decide_eq_true h3
    refine WL.run (d := 25) Q0 Q0 ?_
    refine WL.p Q0 (Yl.fieldAddr fa115_1 Q0) ?_
    refine WL.run (d := 25) Q0 Q0 ?_
    refine WL.p Q0 (Yl.loadAB agg45 Q0 hs Q1 Q0 Q0) ?_
    refine WL.run (d := 25) Q0 Q0 ?_
    refine WL.callp hs Q0 (Yc.func Q0 fn43) (c_impl_IsResponse _ _ ⟨(Ph.old (Sl.Ok.elem h_s.files hd).response.status hs), (Ph.old (Sl.Ok.elem h_s.files hd).response.kind hs), (Ph.old (Sl.Ok.elem h_s.files hd).response.body hs), (Ph.old (Sl.Ok.elem h_s.files hd).response.age hs), (Ph.old (Sl.Ok.elem h_s.files hd).response.shares hs), (Ph.old (Sl.Ok.elem h_s.files hd).response.policy hs)⟩ (by first | assumption | omega) (by first | assumption | exact Sat.cellm hs (by assumption))) ?_
    clear hs; intro w hs
    refine WL.run (d := 25) Q0 Q0 ?_
    refine WL.p Q0 (Yl.not Q0) ?_
    refine WL.p Q0 (Yl.pickF Q0 Q0) ?_
    refine WL.next ?_
    refine WC.condS Q0 (fun h4 => ?_) (fun h4 => ?_)
    ·
     replace h4 := not_eq_true h4
     refine WC.seq ?_
     refine Qa ?_
     refine WL.next ?_
     refine WC.ret ?_
     refine At.blockret ?_
     refine At.thenret ?_
     refine At.thenret ?_
     refine At.blockret ?_
     refine At.thenret ?_
     refine fin1' rfl Q0 ?_
     refine RetP.mk hs ?_
     simp only [serverOk, filesOk]
     simp_all [fileOk]
     try omega
    ·
     replace h4 := not_eq_false h4
     refine WC.skip ?_
     refine At.blocknormal ?_
     refine At.then_ ?_
     refine WC.region ?_
     refine WL.p Q0 (Yl.add Q0 Q0 Q7) ?_
     refine Qm ?_
     refine WL.nil ?_
     refine At.roundC (k + 1) (hs.only Q2) ⟨by rfl, by rfl, by rfl, by rfl, trivial⟩ ⟨by rfl, trivial⟩ ?_ ?_
     ·
      omega
     ·
      rw [hJ]; simp_all [fileOk]
 ·
  replace h1 := of_decide_eq_false h1
  rw [uniq_end (l := s.files.l) Q7] at hJ
  refine WC.exit ?_
  refine At.thenexit ?_
  refine At.thenexit ?_
  refine At.blockexit ?_
  refine At.then_ ?_
  refine WC.seq ?_
  refine WL.p Q0 (Yl.fieldAddr fa112_0 Q0) ?_
  refine WL.p Q0 (Yl.loadB sca9 Q0 hs Q1 Q0) ?_
  refine WL.callp hs Q0 (Yc.func Q0 fn83) (c_impl_IsName _ _ (Ph.old h_s.host hs)) ?_
  clear hs; intro w hs
  refine Qm ?_
  refine WL.split (d := 35) Q0 (fun h2 => ?_) (fun h2 => ?_)
  ·
   refine WL.run (d := 35) Q0 Q0 ?_
   refine WL.p Q0 (Yl.fieldAddr fa112_1 Q0) ?_
   refine WL.run (d := 35) Q0 Q0 ?_
   refine WL.p Q0 (Yl.loadB sca110 Q0 hs Q1 Q0) ?_
   refine WL.run (d := 35) Q0 Q0 ?_
   refine WL.p Q0 (Yl.len_sl slu110 Q0) ?_
   refine WL.run (d := 35) Q0 Q0 ?_
   refine WL.p Q0 (Yl.leq Q0 Q0) ?_
   refine WL.p Q0 (Yl.pickT Q0 Q0) ?_
   refine Qa ?_
   refine WL.next ?_
   refine WC.ret ?_
   refine fin1' rfl Q0 ?_
   refine RetP.mk hs ?_
   simp only [serverOk, filesOk]
   simp_all [fileOk]
   try omega
  ·
   refine WL.skip (d := 35) Q0 Q0 Q0 Q0 ?_
   refine WL.skip (d := 35) Q0 Q0 Q0 Q0 ?_
   refine WL.skip (d := 35) Q0 Q0 Q0 Q0 ?_
   refine WL.skip (d := 35) Q0 Q0 Q0 Q0 ?_
   refine WL.p Q0 (Yl.pickF Q0 Q0) ?_
   refine Qa ?_
   refine WL.next ?_
   refine WC.ret ?_
   refine fin1' rfl Q0 ?_
   refine RetP.mk hs ?_
   simp only [serverOk, filesOk]
   simp_all [fileOk]
   try omega

theorem c_impl_PutFile (l : (Sl PServer)) (a : TAddr) (y : TResponse) (w : World) (h_l : Ph.ok w l) (h_a : Ph.ok w a) (h_y : Ph.ok w y) (hbz : lsz TServer.size (l.l.map PServer.lg) ≤ 1048576) (hpy : y.policy.length ≤ 1048576) (hm_ : ∃ m, w.cell? ⟨0, 0, none⟩ = some (.int .i64 m)) : Calls Tryd.prog 30 [Sl.v l, .agg #[S a.host, S a.path], .agg #[I y.status, I y.kind, S y.body, I y.age, Bo y.shares, S y.policy]].toArray w (Ret w (fun v w' => ∃ x : Sl PServer, v = .tuple #[x.v, Bo (putIs (l.l.map PServer.lg) a y)] ∧ x.l.map PServer.lg = putFile (l.l.map PServer.lg) a y ∧ Fresh w x w')) := by
 have hw := h_l.lt
 have hlz : l.l.length ≤ 1048576 := by simp only [lsz, List.length_map] at hbz; omega
 refine enterN 74 Tryd.func30 rfl rfl rfl ?_
 have hs := Sat.start w
 refine WC.seq ?_
 refine WL.r Q0 (Yr.box hs Q0 Q0) ?_
 clear hs; rintro _ w ⟨b1, rfl, hb, hs⟩; clear hb
 refine WL.r Q0 (Yr.box hs Q0 Q0) ?_
 clear hs; rintro _ w ⟨b2, rfl, hb, hs⟩; clear hb
 refine Qa ?_
 refine Qa ?_
 refine WL.next ?_
 refine WC.seq ?_
 refine Qm ?_
 refine WL.call hs Q0 (Yc.func Q0 fn86) (c_impl_copyServers _ _ (Ph.old h_l hs) (by exact hbz)) ?_
 have hs0 := hs; clear hs; intro v w hb hR hs; clear hs
 obtain ⟨x3, rfl, hx3, hf3⟩ := hR
 obtain ⟨F3, hs⟩ := hf3.sat hs0 hb; clear hs0 hf3
 have hle3 := Sl.Ok.le (hs.okow (x := x3) (F := F3) Q1)
 refine Qa ?_
 refine WL.next ?_
 refine WC.seq ?_
 refine Qm ?_
 refine WL.p Q0 (Yl.fieldAddr fa43_0 Q0) ?_
 refine WL.p Q0 (Yl.loadB sca9 Q0 hs Q1 Q0) ?_
 refine WL.callp hs Q0 (Yc.func Q0 fn87) (c_impl_serverAt _ _ _ (Ph.old h_l hs)) ?_
 clear hs; intro w hs
 refine Qa ?_
 refine WL.next ?_
 refine WC.seq' ?_
 refine WC.seq ?_
 refine Qm ?_
 refine WL.p Q0 (Yl.lss Q0 Q0) ?_
 refine WL.next ?_
 refine WC.condS Q0 (fun h1 => ?_) (fun h1 => ?_)
 ·
  replace h1 := of_decide_eq_true h1
  have hlx : x3.l.length = l.l.length := by have h9 := congrArg List.length hx3; simpa using h9
  have hDp : ∀ f ∈ (PServer.lg (⟨a.host, ⟨[], none, 0⟩⟩ : PServer)).files, f.response.policy.length ≤ 1048576 := fun f hf => by cases hf
  have hdf : (⟨a.host, ⟨[], none, 0⟩⟩ : PServer).files.l.length ≤ 1048576 := Nat.zero_le _
  refine WC.seq ?_
  refine Qm ?_
  refine WL.p Q0 (Yl.len_sl slu56 Q0) ?_
  refine Qa ?_
  refine WL.next ?_
  refine WC.region ?_
  refine Qm ?_
  refine WL.p Q0 (Yl.fieldAddr fa43_0 Q0) ?_
  refine WL.p Q0 (Yl.loadB sca9 Q0 hs Q1 Q0) ?_
  refine WL.p Q0 (Yl.build bt112 Q0 Q4) ?_
  refine WL.r Q0 (Yr.buildSlice hs sll56 Q0 Q0 Q0 Q4 Q0) ?_
  clear hs; rintro _ w ⟨b4, rfl, hb, hs⟩; clear hb
  replace hs := Sat.nilsl (α := TFile) hs
  replace hs := PServer.join (⟨a.host, ⟨[], none, 0⟩⟩ : PServer) (hs.sel (D := [ow (⟨[], none, 0⟩ : (Sl TFile)) []]) Q2) (by first | exact (Ph.old h_a.host hs) | (refine Ph.old ?_ hs; assumption))
  try simp only [List.cons_append, List.nil_append] at hs
  refine WL.r Q0 (Yr.appendE (s := x3) (F := F3) (u := (⟨a.host, ⟨[], none, 0⟩⟩ : PServer)) (G := []) hs elt56 Q2 Q0 Q0 (hs.box_cells Q1) (by first | (rw [hlx]; unfold maxLen; omega) | (simp only [List.length_nil, List.length_singleton]; unfold maxLen; omega) | (simp; unfold maxLen; omega)) (by first | (rw [hlx]; omega) | omega | (simp only [List.length_nil, List.length_singleton]; omega) | (simp; omega))) ?_
  clear hs; rintro _ w ⟨s5, F5, rfl, hl5, hs⟩
  refine Qa ?_
  refine WL.nil ?_
  refine At.then_ ?_
  refine WC.seq' ?_
  refine WC.quietn mixed Q6 hs ?_
  refine WQ.p Q0 (fun w hs => Yl.move Q0) ?_
  refine WQ.p Q0 (fun w hs => Yl.move Q0) ?_
  refine WQ.p Q0 (fun w hs => Yl.indexAddr slt56 Q0 Q0 (hs.okow (x := s5) (F := F5) Q1) (by first | exact hj2 | exact hj | rfl | exact congrArg (fun n : Nat => (n : Int)) hlx) ((get_last hl5 hlx))) ?_
  refine WQ.p Q0 (fun w hs => Yl.loadA agg112 Q0 (Sl.Ok.at_ (hs.okow (x := s5) (F := F5) Q1) ((get_last hl5 hlx))).2 Q0) ?_
  refine WQ.p Q0 (fun w hs => Yl.fieldAddr fa43_1 Q0) ?_
  refine WQ.p Q0 (fun w hs => Yl.loadB sca9 Q0 hs Q1 Q0) ?_
  refine WQ.callp Q0 (fun w => Yc.func Q0 fn88) (fun w hs => (c_impl_fileAt _ _ _ (Sl.Ok.elem (hs.okow (x := s5) (F := F5) Q1) (get_last hl5 hlx)))) (fun _ _ hs hb => hs.ext hb) ?_
  refine WQ.p Q0 (fun w hs => Yl.assign Q0) ?_
  refine WQ.next ?_
  clear hs; intro w hs
  refine WC.seq ?_
  refine Qm ?_
  refine WL.p Q0 (Yl.geq Q0 Q0) ?_
  refine WL.next ?_
  refine WC.condS Q0 (fun h2 => ?_) (fun h2 => ?_)
  ·
   replace h2 := of_decide_eq_true h2
   obtain ⟨j2, d2, hj2, hd2, hf2⟩ := idxF_some (Int.not_lt.2 h2)
   rw [Nat.zero_add] at hj2
   refine WC.anyX (K := [ow s5 F5]) mixed hs Q2 ?_
   clear hs; intro w hs
   refine WA.p (i := 0) Q0 Q6 Q6 Q6 Q0 (hs.only Q2) (fun w hs => Yl.move Q0) ?_
   refine WA.p (i := 1) Q0 Q6 Q6 Q6 Q0 (hs.only Q2) (fun w hs => Yl.move Q0) ?_
   have hadr500 := (Sl.Ok.at_ (hs.okow (x := s5) (F := F5) Q1) ((get_last hl5 hlx))).1
   refine WA.p (i := 2) Q0 Q6 Q6 Q6 Q0 (hs.only Q2) (fun w hs => Yl.indexAddrA slt56 Q0 Q0 hadr500 (by first | exact hj2 | exact hj | rfl | exact congrArg (fun n : Nat => (n : Int)) hlx) ((get_last hl5 hlx))) ?_
   refine WA.p (i := 3) Q0 Q6 Q6 Q6 Q0 (hs.only Q2) (fun w hs => Yl.fieldAddr fa112_1 Q0) ?_
   refine WA.p (i := 5) Q0 Q6 Q6 Q6 Q0 (hs.only Q2) (fun w hs => Yl.move Q0) ?_
   refine WA.p (i := 6) Q0 Q6 Q6 Q6 Q0 (hs.only Q2) (fun w hs => Yl.loadAB agg45 Q0 hs Q1 Q0 Q0) ?_
   refine WA.r (i := 4) Q6 Q0 Q0 (Yl.yr (Yl.loadC sca110 Q0 (Sl.Ok.at_ (hs.okow (x := s5) (F := F5) Q1) ((get_last hl5 hlx))).2 Q0)) (by rintro _ _ ⟨rfl, rfl⟩; exact hs.only Q2) ?_
   rintro _ _ ⟨rfl, rfl⟩
   have hadr501 := (Sl.Ok.at_ (Sl.Ok.elem (hs.okow (x := s5) (F := F5) Q1) (get_last hl5 hlx)).files (hd2)).1
   refine WA.p (i := 7) Q0 Q6 Q6 Q6 Q0 (hs.only Q2) (fun w hs => Yl.indexAddrA slt110 Q0 Q0 hadr501 (by first | exact hj2 | exact hj | rfl | exact congrArg (fun n : Nat => (n : Int)) hlx) (hd2)) ?_
   refine WA.p (i := 8) Q0 Q6 Q6 Q6 Q0 (hs.only Q2) (fun w hs => Yl.fieldAddr fa115_1 Q0) ?_
   obtain ⟨G6, B6, hs⟩ := Sat.lend (hs.sel (D := [ow s5 F5]) Q2) (get_last hl5 hlx)
   obtain ⟨K6, hfl6, hs⟩ := PServer.split hs
   try simp only [List.cons_append, List.nil_append] at hs
   have hel6 := Sl.Ok.elem (hs.okow (x := (⟨a.host, ⟨[], none, 0⟩⟩ : PServer).files) (F := K6) Q1) hd2
   refine WA.s (i := 9) Q6 Q0 (Yr.storeP (s := (⟨a.host, ⟨[], none, 0⟩⟩ : PServer).files) (F := K6) (d := d2) (u := (⟨d2.path, y⟩ : TFile)) (k := j2) (j := 1) hs Q2 Q0 Q0 Q0 hd2 ⟨_, by rfl, by rfl⟩ Q3 (by exact own_part_flat ⟨hel6.path, (by first | assumption | exact Flat.any (by assumption) | (refine Ph.old ?_ hs; assumption))⟩) Q0 (by exact szf45)) (by rintro _ w ⟨a6, _, rfl, hw6, hm6, _, hs⟩; exact hs.only Q2) ?_
   clear hs; rintro _ w ⟨a6, _, rfl, hw6, hm6, _, hs⟩
   replace hs := PServer.join (⟨(⟨a.host, ⟨[], none, 0⟩⟩ : PServer).host, a6⟩ : PServer) (hs.sel (D := [ow a6 K6]) Q2) (Flat.any hfl6.1)
   try simp only [List.cons_append, List.nil_append] at hs
   obtain ⟨s6, F6, hv6, hl6, hg6, hs⟩ := Sat.back (s := s5) (k := l.l.length) (d := (⟨a.host, ⟨[], none, 0⟩⟩ : PServer)) (hs.sel (D := [ow (⟨(⟨a.host, ⟨[], none, 0⟩⟩ : PServer).host, a6⟩ : PServer) K6, hl s5 l.l.length G6]) Q2) (get_last hl5 hlx) (by show [S (⟨(⟨a.host, ⟨[], none, 0⟩⟩ : PServer).host, a6⟩ : PServer).host, Sl.v a6] = [S (⟨a.host, ⟨[], none, 0⟩⟩ : PServer).host, Sl.v (⟨a.host, ⟨[], none, 0⟩⟩ : PServer).files]; rw [hw6])
   try simp only [List.cons_append, List.nil_append] at hs
   refine WA.done Q6 ?_
   refine At.then_ ?_
   refine WC.seq' ?_
   refine WC.seq ?_
   refine Qm ?_
   refine WL.p Q0 (Yl.len_sl slu56 Q0) ?_
   refine WL.p Q0 (Yl.gtr Q0 Q0) ?_
   refine Qm ?_
   refine WL.split (d := 63) Q0 (fun h3 => ?_) (fun h3 => ?_)
   ·
    replace h3 := of_decide_eq_true h3
    refine WL.skip (d := 63) Q0 Q0 Q0 Q0 ?_
    refine WL.skip (d := 63) Q0 Q0 Q0 Q0 ?_
    refine WL.skip (d := 63) Q0 Q0 Q0 Q0 ?_
    refine WL.skip (d := 63) Q0 Q0 Q0 Q0 ?_
    refine WL.skip (d := 63) Q0 Q0 Q0 Q0 ?_
    refine WL.skip (d := 63) Q0 Q0 Q0 Q0 ?_
    refine WL.p Q0 (Yl.pickT Q0 Q0) ?_
    refine WL.next ?_
    refine WC.condT Q0 ?_
    refine WC.seq ?_
    refine Qm ?_
    refine WL.call hs Q0 (Yc.func Q0 fn86) (c_impl_copyServers _ _ (Ph.old h_l hs) (by exact hbz)) ?_
    have hs0 := hs; clear hs; intro v w hb hR hs; clear hs
    obtain ⟨x7, rfl, hx7, hf7⟩ := hR
    obtain ⟨F7, hs⟩ := hf7.sat hs0 hb; clear hs0 hf7
    have hle7 := Sl.Ok.le (hs.okow (x := x7) (F := F7) Q1)
    refine Qa ?_
    refine Qa ?_
    refine WL.next ?_
    refine WC.ret ?_
    refine At.thenret ?_
    refine fin2' rfl Q0 Q0 ?_
    refine Ret.mk hs ?_
    have hjL : idxF (onHost a.host) (l.l.map PServer.lg) 0 < 0 := by rw [idx_host]; exact h1
    have hw9 : s5.l.map PServer.lg = withHost (l.l.map PServer.lg) a.host := by rw [(host_new hjL).1, hl5, List.map_append, hx3]; rfl
    have hi9 : hostIx (l.l.map PServer.lg) a.host = l.l.length := by rw [(host_new hjL).2, List.length_map]
    have hd9 : s5.l[l.l.length]? = some (⟨a.host, ⟨[], none, 0⟩⟩ : PServer) := get_last hl5 hlx
    have hu9 : PServer.lg (⟨(⟨a.host, ⟨[], none, 0⟩⟩ : PServer).host, a6⟩ : PServer) = putOn (PServer.lg (⟨a.host, ⟨[], none, 0⟩⟩ : PServer)) a.path y := by
     rw [putOn_found (s := PServer.lg (⟨a.host, ⟨[], none, 0⟩⟩ : PServer)) hj2 hd2]
     simp only [PServer.lg, hm6]
    have hall9 : s6.l.map PServer.lg = putAll (l.l.map PServer.lg) a y := by rw [hl6]; exact put_all hw9 hi9 hd9 hu9
    have hpi9 := put_is hall9 hi9 hg6
    have hln9 : s6.l.length = s5.l.length := by rw [hl6, List.length_set]
    rw [hln9] at hpi9
    have hb9 : putIs (l.l.map PServer.lg) a y = false := by
     clear hs
     rw [hpi9]
     first
      | (simp_all; done)
      | (simp_all; omega)
      | (rw [Bool.and_eq_false_iff]; left; exact decide_eq_false Q7)
      | (rw [Bool.and_eq_true]; exact ⟨decide_eq_true Q7, by simp_all⟩)
      | (rw [Bool.and_eq_false_iff]; right; simp_all)
    exact ⟨x7, by rw [hb9], hx7.trans (putFile_no hb9).symm, hs.fresh Q1⟩
   ·
    replace h3 := of_decide_eq_false h3
    refine WL.run (d := 63) Q0 Q0 ?_
    refine Qm ?_
    refine WL.run (d := 63) Q0 Q0 ?_
    refine Qm ?_
    refine WL.run (d := 63) Q0 Q0 ?_
    refine WL.p Q0 (Yl.indexAddrV slt56 Q0 hv6 Q0 (hs.okow (x := s6) (F := F6) Q1) (by first | exact hj2 | exact hj | rfl | exact congrArg (fun n : Nat => (n : Int)) hlx) (hg6)) ?_
    refine WL.run (d := 63) Q0 Q0 ?_
    refine WL.p Q0 (Yl.loadA agg112 Q0 (Sl.Ok.at_ (hs.okow (x := s6) (F := F6) Q1) (by assumption)).2 Q0) ?_
    refine WL.run (d := 63) Q0 Q0 ?_
    have hjL : idxF (onHost a.host) (l.l.map PServer.lg) 0 < 0 := by rw [idx_host]; exact h1
    have hw9 : s5.l.map PServer.lg = withHost (l.l.map PServer.lg) a.host := by rw [(host_new hjL).1, hl5, List.map_append, hx3]; rfl
    have hi9 : hostIx (l.l.map PServer.lg) a.host = l.l.length := by rw [(host_new hjL).2, List.length_map]
    have hd9 : s5.l[l.l.length]? = some (⟨a.host, ⟨[], none, 0⟩⟩ : PServer) := get_last hl5 hlx
    have hu9 : PServer.lg (⟨(⟨a.host, ⟨[], none, 0⟩⟩ : PServer).host, a6⟩ : PServer) = putOn (PServer.lg (⟨a.host, ⟨[], none, 0⟩⟩ : PServer)) a.path y := by
     rw [putOn_found (s := PServer.lg (⟨a.host, ⟨[], none, 0⟩⟩ : PServer)) hj2 hd2]
     simp only [PServer.lg, hm6]
    have hall9 : s6.l.map PServer.lg = putAll (l.l.map PServer.lg) a y := by rw [hl6]; exact put_all hw9 hi9 hd9 hu9
    have hpi9 := put_is hall9 hi9 hg6
    have hln9 : s6.l.length = s5.l.length := by rw [hl6, List.length_set]
    rw [hln9] at hpi9
    refine WL.callp hs Q0 (Yc.func Q0 fn89) (c_impl_IsServer _ _ (Sl.Ok.elem (hs.okow (x := s6) (F := F6) Q1) hg6) (by show ∀ f ∈ (PServer.lg _).files, _; rw [hu9]; exact putOn_pol hDp hpy) (by first | assumption | exact Sat.cellm hs (by assumption))) ?_
    clear hs; intro w hs
    refine WL.run (d := 63) Q0 Q0 ?_
    refine WL.p Q0 (Yl.not Q0) ?_
    refine WL.p Q0 (Yl.pickF Q0 Q0) ?_
    refine WL.next ?_
    refine WC.condS Q0 (fun h4 => ?_) (fun h4 => ?_)
    ·
     replace h4 := not_eq_true h4
     refine WC.seq ?_
     refine Qm ?_
     refine WL.call hs Q0 (Yc.func Q0 fn86) (c_impl_copyServers _ _ (Ph.old h_l hs) (by exact hbz)) ?_
     have hs0 := hs; clear hs; intro v w hb hR hs; clear hs
     obtain ⟨x8, rfl, hx8, hf8⟩ := hR
     obtain ⟨F8, hs⟩ := hf8.sat hs0 hb; clear hs0 hf8
     have hle8 := Sl.Ok.le (hs.okow (x := x8) (F := F8) Q1)
     refine Qa ?_
     refine Qa ?_
     refine WL.next ?_
     refine WC.ret ?_
     refine At.thenret ?_
     refine fin2' rfl Q0 Q0 ?_
     refine Ret.mk hs ?_
     have hjL : idxF (onHost a.host) (l.l.map PServer.lg) 0 < 0 := by rw [idx_host]; exact h1
     have hw9 : s5.l.map PServer.lg = withHost (l.l.map PServer.lg) a.host := by rw [(host_new hjL).1, hl5, List.map_append, hx3]; rfl
     have hi9 : hostIx (l.l.map PServer.lg) a.host = l.l.length := by rw [(host_new hjL).2, List.length_map]
     have hd9 : s5.l[l.l.length]? = some (⟨a.host, ⟨[], none, 0⟩⟩ : PServer) := get_last hl5 hlx
     have hu9 : PServer.lg (⟨(⟨a.host, ⟨[], none, 0⟩⟩ : PServer).host, a6⟩ : PServer) = putOn (PServer.lg (⟨a.host, ⟨[], none, 0⟩⟩ : PServer)) a.path y := by
      rw [putOn_found (s := PServer.lg (⟨a.host, ⟨[], none, 0⟩⟩ : PServer)) hj2 hd2]
      simp only [PServer.lg, hm6]
     have hall9 : s6.l.map PServer.lg = putAll (l.l.map PServer.lg) a y := by rw [hl6]; exact put_all hw9 hi9 hd9 hu9
     have hpi9 := put_is hall9 hi9 hg6
     have hln9 : s6.l.length = s5.l.length := by rw [hl6, List.length_set]
     rw [hln9] at hpi9
     have hb9 : putIs (l.l.map PServer.lg) a y = false := by
      clear hs
      rw [hpi9]
      first
       | (simp_all; done)
       | (simp_all; omega)
       | (rw [Bool.and_eq_false_iff]; left; exact decide_eq_false Q7)
       | (rw [Bool.and_eq_true]; exact ⟨decide_eq_true Q7, by simp_all⟩)
       | (rw [Bool.and_eq_false_iff]; right; simp_all)
     exact ⟨x8, by rw [hb9], hx8.trans (putFile_no hb9).symm, hs.fresh Q1⟩
    ·
     replace h4 := not_eq_false h4
     refine WC.skipn ?_
     refine WC.seq ?_
     refine Qm ?_
     refine Qa ?_
     refine Qa ?_
     refine WL.next ?_
     refine WC.ret ?_
     refine fin2' rfl Q0 Q0 ?_
     refine Ret.mk hs ?_
     have hjL : idxF (onHost a.host) (l.l.map PServer.lg) 0 < 0 := by rw [idx_host]; exact h1
     have hw9 : s5.l.map PServer.lg = withHost (l.l.map PServer.lg) a.host := by rw [(host_new hjL).1, hl5, List.map_append, hx3]; rfl
     have hi9 : hostIx (l.l.map PServer.lg) a.host = l.l.length := by rw [(host_new hjL).2, List.length_map]
     have hd9 : s5.l[l.l.length]? = some (⟨a.host, ⟨[], none, 0⟩⟩ : PServer) := get_last hl5 hlx
     have hu9 : PServer.lg (⟨(⟨a.host, ⟨[], none, 0⟩⟩ : PServer).host, a6⟩ : PServer) = putOn (PServer.lg (⟨a.host, ⟨[], none, 0⟩⟩ : PServer)) a.path y := by
      rw [putOn_found (s := PServer.lg (⟨a.host, ⟨[], none, 0⟩⟩ : PServer)) hj2 hd2]
      simp only [PServer.lg, hm6]
     have hall9 : s6.l.map PServer.lg = putAll (l.l.map PServer.lg) a y := by rw [hl6]; exact put_all hw9 hi9 hd9 hu9
     have hpi9 := put_is hall9 hi9 hg6
     have hln9 : s6.l.length = s5.l.length := by rw [hl6, List.length_set]
     rw [hln9] at hpi9
     have hb9 : putIs (l.l.map PServer.lg) a y = true := by
      clear hs
      rw [hpi9]
      first
       | (simp_all; done)
       | (simp_all; omega)
       | (rw [Bool.and_eq_false_iff]; left; exact decide_eq_false Q7)
       | (rw [Bool.and_eq_true]; exact ⟨decide_eq_true Q7, by simp_all⟩)
       | (rw [Bool.and_eq_false_iff]; right; simp_all)
     exact ⟨s6, by rw [hb9]; exact congrArg (fun z => Value.tuple #[z, Bo true]) (hv6).symm, hall9.trans (putFile_yes hb9).symm, hs.fresh Q1⟩
  ·
   replace h2 := of_decide_eq_false h2
   refine WC.anyX (K := [ow s5 F5]) mixed hs Q2 ?_
   clear hs; intro w hs
   refine WA.p (i := 0) Q0 Q6 Q6 Q6 Q0 (hs.only Q2) (fun w hs => Yl.move Q0) ?_
   refine WA.p (i := 1) Q0 Q6 Q6 Q6 Q0 (hs.only Q2) (fun w hs => Yl.move Q0) ?_
   refine WA.p (i := 2) Q0 Q6 Q6 Q6 Q0 (hs.only Q2) (fun w hs => Yl.move Q0) ?_
   refine WA.p (i := 3) Q0 Q6 Q6 Q6 Q0 (hs.only Q2) (fun w hs => Yl.move Q0) ?_
   have hadr800 := (Sl.Ok.at_ (hs.okow (x := s5) (F := F5) Q1) ((get_last hl5 hlx))).1
   refine WA.p (i := 4) Q0 Q6 Q6 Q6 Q0 (hs.only Q2) (fun w hs => Yl.indexAddrA slt56 Q0 Q0 hadr800 (by first | exact hj2 | exact hj | rfl | exact congrArg (fun n : Nat => (n : Int)) hlx) ((get_last hl5 hlx))) ?_
   refine WA.p (i := 5) Q0 Q6 Q6 Q6 Q0 (hs.only Q2) (fun w hs => Yl.fieldAddr fa112_1 Q0) ?_
   refine WA.p (i := 7) Q0 Q6 Q6 Q6 Q0 (hs.only Q2) (fun w hs => Yl.fieldAddr fa43_1 Q0) ?_
   refine WA.p (i := 8) Q0 Q6 Q6 Q6 Q0 (hs.only Q2) (fun w hs => Yl.loadB sca9 Q0 hs Q1 Q0) ?_
   refine WA.p (i := 9) Q0 Q6 Q6 Q6 Q0 (hs.only Q2) (fun w hs => Yl.loadAB agg45 Q0 hs Q1 Q0 Q0) ?_
   refine WA.p (i := 10) Q0 Q6 Q6 Q6 Q0 (hs.only Q2) (fun w hs => Yl.build bt115 Q0 Q4) ?_
   refine WA.dag' [(⟨6, 51, [], (fun _ v cs => v = Sl.v (⟨a.host, ⟨[], none, 0⟩⟩ : PServer).files ∧ cs = [])⟩, []), (⟨11, 56, [], (fun _ v cs => ∃ b, v = .slice (some ⟨b, 0, none⟩) 1 1 ∧ cs = [box b 115 ((Ph.enc ((⟨a.path, y⟩ : TFile))))])⟩, [])] [false, false] [(0, _), (1, _), (2, _), (4, _), (5, _), (6, _), (7, _), (8, _), (9, _), (10, _), (11, _), (12, _), (13, _), (14, _), (15, _), (16, _), (17, _), (18, _), (19, _), (20, _), (21, _), (22, _), (23, _), (24, _), (25, _), (26, _), (27, _), (28, _), (29, _), (30, _), (31, _), (32, _), (33, _), (34, _), (35, _), (45, _), (46, _), (47, _), (48, _), (49, _), (50, _), (52, _), (53, _), (54, _), (55, _)] ⟨by rfl, by rfl, by rfl, by rfl, by rfl, by rfl, by rfl, by rfl, by rfl, by rfl, by rfl, by rfl, by rfl, by rfl, by rfl, by rfl, by rfl, by rfl, by rfl, by rfl, by rfl, by rfl, by rfl, by rfl, by rfl, by rfl, by rfl, by rfl, by rfl, by rfl, by rfl, by rfl, by rfl, by rfl, by rfl, by rfl, by rfl, by rfl, by rfl, by rfl, by rfl, by rfl, by rfl, by rfl, by rfl, trivial⟩ Q0 Q6 Q6 Q6 Q6 Q6 Q6 Q6 Q6 (fun _ hs => hs.only Q2) hs (fuel := 4) ⟨⟨local_const, ?_⟩, ⟨local_const, ?_⟩, trivial⟩ ?_
   ·
    clear hs
    intro w R hs
    simp only [List.cons_append, List.nil_append] at hs
    exact Gives.p' Q0 (Yl.loadC sca110 Q0 (Sl.Ok.at_ (hs.okow (x := s5) (F := F5) Q1) ((get_last hl5 hlx))).2 Q0) ⟨[], ⟨rfl, rfl⟩, hs⟩
   ·
    clear hs
    intro w R hs
    simp only [List.cons_append, List.nil_append] at hs
    exact Gives.rr' Q0 (Yr.buildSlice hs sll110 Q0 Q0 Q0 Q4 Q0) (fun _ _ ⟨b, hv, _, hs1⟩ => ⟨[box b 115 ((Ph.enc ((⟨a.path, y⟩ : TFile))))], ⟨b, hv, rfl⟩, hs1⟩)
   clear hs
   rintro _ _ ⟨rfl, rfl⟩
   rintro _ _ ⟨b10, rfl, rfl⟩
   intro w hs
   simp only [List.cons_append, List.nil_append, cond_true, cond_false] at hs
   obtain ⟨G11, B11, hs⟩ := Sat.lend (hs.sel (D := [ow s5 F5]) Q2) (get_last hl5 hlx)
   obtain ⟨K11, hfl11, hs⟩ := PServer.split hs
   try simp only [List.cons_append, List.nil_append] at hs
   refine WA.r (i := 12) Q6 Q0 Q0 (Yr.append (s := (⟨a.host, ⟨[], none, 0⟩⟩ : PServer).files) (F := K11) hs elt110 Q2 Q0 Q0 rfl (xs := [(⟨a.path, y⟩ : TFile)]) (hs.box_cells Q1) (by intro x hx; obtain rfl := List.mem_singleton.1 hx; exact ⟨Flat.any h_a.path, Flat.any h_y⟩) (by first | (rw [hlx]; unfold maxLen; omega) | (simp only [List.length_nil, List.length_singleton]; unfold maxLen; omega) | (simp; unfold maxLen; omega)) (by first | (rw [hlx]; omega) | omega | (simp only [List.length_nil, List.length_singleton]; omega) | (simp; omega))) (by rintro _ w ⟨s12, F12, rfl, hl12, hs⟩; exact hs.only Q2) ?_
   clear hs; rintro _ w ⟨s12, F12, rfl, hl12, hs⟩
   refine WA.p (i := 13) Q0 Q6 Q6 Q6 Q0 (hs.only Q2) (fun w hs => Yl.indexAddrA slt56 Q0 Q0 hadr800 (by first | exact hj2 | exact hj | rfl | exact congrArg (fun n : Nat => (n : Int)) hlx) ((get_last hl5 hlx))) ?_
   refine WA.p (i := 14) Q0 Q6 Q6 Q6 Q0 (hs.only Q2) (fun w hs => Yl.fieldAddr fa112_1 Q0) ?_
   replace hs := PServer.join (⟨(⟨a.host, ⟨[], none, 0⟩⟩ : PServer).host, s12⟩ : PServer) (hs.sel (D := [ow s12 F12]) Q2) (Flat.any hfl11.1)
   try simp only [List.cons_append, List.nil_append] at hs
   refine WA.s (i := 15) Q6 Q0 (Yr.storeHole (s := s5) (G := G11) (B := F12) (d := (⟨a.host, ⟨[], none, 0⟩⟩ : PServer)) (u := (⟨(⟨a.host, ⟨[], none, 0⟩⟩ : PServer).host, s12⟩ : PServer)) (k := l.l.length) (j := 1) hs Q2 Q0 Q0 Q0 (get_last hl5 hlx) ⟨_, by rfl, by rfl⟩ Q3 Q0 (by exact szf110)) (by rintro _ w ⟨s13, F13, hv13, hl13, hg13, hs⟩; exact hs.only Q2) ?_
   clear hs; rintro _ w ⟨s13, F13, hv13, hl13, hg13, hs⟩
   refine WA.done Q6 ?_
   refine At.then_ ?_
   refine WC.seq' ?_
   refine WC.seq ?_
   refine Qm ?_
   refine WL.p Q0 (Yl.len_sl slu56 Q0) ?_
   refine WL.p Q0 (Yl.gtr Q0 Q0) ?_
   refine Qm ?_
   refine WL.split (d := 63) Q0 (fun h3 => ?_) (fun h3 => ?_)
   ·
    replace h3 := of_decide_eq_true h3
    refine WL.skip (d := 63) Q0 Q0 Q0 Q0 ?_
    refine WL.skip (d := 63) Q0 Q0 Q0 Q0 ?_
    refine WL.skip (d := 63) Q0 Q0 Q0 Q0 ?_
    refine WL.skip (d := 63) Q0 Q0 Q0 Q0 ?_
    refine WL.skip (d := 63) Q0 Q0 Q0 Q0 ?_
    refine WL.skip (d := 63) Q0 Q0 Q0 Q0 ?_
    refine WL.p Q0 (Yl.pickT Q0 Q0) ?_
    refine WL.next ?_
    refine WC.condT Q0 ?_
    refine WC.seq ?_
    refine Qm ?_
    refine WL.call hs Q0 (Yc.func Q0 fn86) (c_impl_copyServers _ _ (Ph.old h_l hs) (by exact hbz)) ?_
    have hs0 := hs; clear hs; intro v w hb hR hs; clear hs
    obtain ⟨x14, rfl, hx14, hf14⟩ := hR
    obtain ⟨F14, hs⟩ := hf14.sat hs0 hb; clear hs0 hf14
    have hle14 := Sl.Ok.le (hs.okow (x := x14) (F := F14) Q1)
    refine Qa ?_
    refine Qa ?_
    refine WL.next ?_
    refine WC.ret ?_
    refine At.thenret ?_
    refine fin2' rfl Q0 Q0 ?_
    refine Ret.mk hs ?_
    have hjL : idxF (onHost a.host) (l.l.map PServer.lg) 0 < 0 := by rw [idx_host]; exact h1
    have hw9 : s5.l.map PServer.lg = withHost (l.l.map PServer.lg) a.host := by rw [(host_new hjL).1, hl5, List.map_append, hx3]; rfl
    have hi9 : hostIx (l.l.map PServer.lg) a.host = l.l.length := by rw [(host_new hjL).2, List.length_map]
    have hd9 : s5.l[l.l.length]? = some (⟨a.host, ⟨[], none, 0⟩⟩ : PServer) := get_last hl5 hlx
    have hu9 : PServer.lg (⟨(⟨a.host, ⟨[], none, 0⟩⟩ : PServer).host, s12⟩ : PServer) = putOn (PServer.lg (⟨a.host, ⟨[], none, 0⟩⟩ : PServer)) a.path y := by
     rw [putOn_new (s := PServer.lg (⟨a.host, ⟨[], none, 0⟩⟩ : PServer)) (Int.not_le.1 h2)]
     simp only [PServer.lg, hl12]
    have hall9 : s13.l.map PServer.lg = putAll (l.l.map PServer.lg) a y := by rw [hl13]; exact put_all hw9 hi9 hd9 hu9
    have hpi9 := put_is hall9 hi9 hg13
    have hln9 : s13.l.length = s5.l.length := by rw [hl13, List.length_set]
    rw [hln9] at hpi9
    have hb9 : putIs (l.l.map PServer.lg) a y = false := by
     clear hs
     rw [hpi9]
     first
      | (simp_all; done)
      | (simp_all; omega)
      | (rw [Bool.and_eq_false_iff]; left; exact decide_eq_false Q7)
      | (rw [Bool.and_eq_true]; exact ⟨decide_eq_true Q7, by simp_all⟩)
      | (rw [Bool.and_eq_false_iff]; right; simp_all)
    exact ⟨x14, by rw [hb9], hx14.trans (putFile_no hb9).symm, hs.fresh Q1⟩
   ·
    replace h3 := of_decide_eq_false h3
    refine WL.run (d := 63) Q0 Q0 ?_
    refine Qm ?_
    refine WL.run (d := 63) Q0 Q0 ?_
    refine Qm ?_
    refine WL.run (d := 63) Q0 Q0 ?_
    refine WL.p Q0 (Yl.indexAddrV slt56 Q0 hv13 Q0 (hs.okow (x := s13) (F := F13) Q1) (by first | exact hj2 | exact hj | rfl | exact congrArg (fun n : Nat => (n : Int)) hlx) (hg13)) ?_
    refine WL.run (d := 63) Q0 Q0 ?_
    refine WL.p Q0 (Yl.loadA agg112 Q0 (Sl.Ok.at_ (hs.okow (x := s13) (F := F13) Q1) (by assumption)).2 Q0) ?_
    refine WL.run (d := 63) Q0 Q0 ?_
    have hjL : idxF (onHost a.host) (l.l.map PServer.lg) 0 < 0 := by rw [idx_host]; exact h1
    have hw9 : s5.l.map PServer.lg = withHost (l.l.map PServer.lg) a.host := by rw [(host_new hjL).1, hl5, List.map_append, hx3]; rfl
    have hi9 : hostIx (l.l.map PServer.lg) a.host = l.l.length := by rw [(host_new hjL).2, List.length_map]
    have hd9 : s5.l[l.l.length]? = some (⟨a.host, ⟨[], none, 0⟩⟩ : PServer) := get_last hl5 hlx
    have hu9 : PServer.lg (⟨(⟨a.host, ⟨[], none, 0⟩⟩ : PServer).host, s12⟩ : PServer) = putOn (PServer.lg (⟨a.host, ⟨[], none, 0⟩⟩ : PServer)) a.path y := by
     rw [putOn_new (s := PServer.lg (⟨a.host, ⟨[], none, 0⟩⟩ : PServer)) (Int.not_le.1 h2)]
     simp only [PServer.lg, hl12]
    have hall9 : s13.l.map PServer.lg = putAll (l.l.map PServer.lg) a y := by rw [hl13]; exact put_all hw9 hi9 hd9 hu9
    have hpi9 := put_is hall9 hi9 hg13
    have hln9 : s13.l.length = s5.l.length := by rw [hl13, List.length_set]
    rw [hln9] at hpi9
    refine WL.callp hs Q0 (Yc.func Q0 fn89) (c_impl_IsServer _ _ (Sl.Ok.elem (hs.okow (x := s13) (F := F13) Q1) hg13) (by show ∀ f ∈ (PServer.lg _).files, _; rw [hu9]; exact putOn_pol hDp hpy) (by first | assumption | exact Sat.cellm hs (by assumption))) ?_
    clear hs; intro w hs
    refine WL.run (d := 63) Q0 Q0 ?_
    refine WL.p Q0 (Yl.not Q0) ?_
    refine WL.p Q0 (Yl.pickF Q0 Q0) ?_
    refine WL.next ?_
    refine WC.condS Q0 (fun h4 => ?_) (fun h4 => ?_)
    ·
     replace h4 := not_eq_true h4
     refine WC.seq ?_
     refine Qm ?_
     refine WL.call hs Q0 (Yc.func Q0 fn86) (c_impl_copyServers _ _ (Ph.old h_l hs) (by exact hbz)) ?_
     have hs0 := hs; clear hs; intro v w hb hR hs; clear hs
     obtain ⟨x15, rfl, hx15, hf15⟩ := hR
     obtain ⟨F15, hs⟩ := hf15.sat hs0 hb; clear hs0 hf15
     have hle15 := Sl.Ok.le (hs.okow (x := x15) (F := F15) Q1)
     refine Qa ?_
     refine Qa ?_
     refine WL.next ?_
     refine WC.ret ?_
     refine At.thenret ?_
     refine fin2' rfl Q0 Q0 ?_
     refine Ret.mk hs ?_
     have hjL : idxF (onHost a.host) (l.l.map PServer.lg) 0 < 0 := by rw [idx_host]; exact h1
     have hw9 : s5.l.map PServer.lg = withHost (l.l.map PServer.lg) a.host := by rw [(host_new hjL).1, hl5, List.map_append, hx3]; rfl
     have hi9 : hostIx (l.l.map PServer.lg) a.host = l.l.length := by rw [(host_new hjL).2, List.length_map]
     have hd9 : s5.l[l.l.length]? = some (⟨a.host, ⟨[], none, 0⟩⟩ : PServer) := get_last hl5 hlx
     have hu9 : PServer.lg (⟨(⟨a.host, ⟨[], none, 0⟩⟩ : PServer).host, s12⟩ : PServer) = putOn (PServer.lg (⟨a.host, ⟨[], none, 0⟩⟩ : PServer)) a.path y := by
      rw [putOn_new (s := PServer.lg (⟨a.host, ⟨[], none, 0⟩⟩ : PServer)) (Int.not_le.1 h2)]
      simp only [PServer.lg, hl12]
     have hall9 : s13.l.map PServer.lg = putAll (l.l.map PServer.lg) a y := by rw [hl13]; exact put_all hw9 hi9 hd9 hu9
     have hpi9 := put_is hall9 hi9 hg13
     have hln9 : s13.l.length = s5.l.length := by rw [hl13, List.length_set]
     rw [hln9] at hpi9
     have hb9 : putIs (l.l.map PServer.lg) a y = false := by
      clear hs
      rw [hpi9]
      first
       | (simp_all; done)
       | (simp_all; omega)
       | (rw [Bool.and_eq_false_iff]; left; exact decide_eq_false Q7)
       | (rw [Bool.and_eq_true]; exact ⟨decide_eq_true Q7, by simp_all⟩)
       | (rw [Bool.and_eq_false_iff]; right; simp_all)
     exact ⟨x15, by rw [hb9], hx15.trans (putFile_no hb9).symm, hs.fresh Q1⟩
    ·
     replace h4 := not_eq_false h4
     refine WC.skipn ?_
     refine WC.seq ?_
     refine Qm ?_
     refine Qa ?_
     refine Qa ?_
     refine WL.next ?_
     refine WC.ret ?_
     refine fin2' rfl Q0 Q0 ?_
     refine Ret.mk hs ?_
     have hjL : idxF (onHost a.host) (l.l.map PServer.lg) 0 < 0 := by rw [idx_host]; exact h1
     have hw9 : s5.l.map PServer.lg = withHost (l.l.map PServer.lg) a.host := by rw [(host_new hjL).1, hl5, List.map_append, hx3]; rfl
     have hi9 : hostIx (l.l.map PServer.lg) a.host = l.l.length := by rw [(host_new hjL).2, List.length_map]
     have hd9 : s5.l[l.l.length]? = some (⟨a.host, ⟨[], none, 0⟩⟩ : PServer) := get_last hl5 hlx
     have hu9 : PServer.lg (⟨(⟨a.host, ⟨[], none, 0⟩⟩ : PServer).host, s12⟩ : PServer) = putOn (PServer.lg (⟨a.host, ⟨[], none, 0⟩⟩ : PServer)) a.path y := by
      rw [putOn_new (s := PServer.lg (⟨a.host, ⟨[], none, 0⟩⟩ : PServer)) (Int.not_le.1 h2)]
      simp only [PServer.lg, hl12]
     have hall9 : s13.l.map PServer.lg = putAll (l.l.map PServer.lg) a y := by rw [hl13]; exact put_all hw9 hi9 hd9 hu9
     have hpi9 := put_is hall9 hi9 hg13
     have hln9 : s13.l.length = s5.l.length := by rw [hl13, List.length_set]
     rw [hln9] at hpi9
     have hb9 : putIs (l.l.map PServer.lg) a y = true := by
      clear hs
      rw [hpi9]
      first
       | (simp_all; done)
       | (simp_all; omega)
       | (rw [Bool.and_eq_false_iff]; left; exact decide_eq_false Q7)
       | (rw [Bool.and_eq_true]; exact ⟨decide_eq_true Q7, by simp_all⟩)
       | (rw [Bool.and_eq_false_iff]; right; simp_all)
     exact ⟨s13, by rw [hb9]; exact congrArg (fun z => Value.tuple #[z, Bo true]) (hv13).symm, hall9.trans (putFile_yes hb9).symm, hs.fresh Q1⟩
 ·
  replace h1 := of_decide_eq_false h1
  have hlx : x3.l.length = l.l.length := by have h9 := congrArg List.length hx3; simpa using h9
  obtain ⟨j, d, hj, hd, hf⟩ := idxF_some h1
  rw [Nat.zero_add] at hj
  obtain ⟨dx, hdx, hdl⟩ := get_map hx3 hd
  have hDp : ∀ f ∈ (PServer.lg dx).files, f.response.policy.length ≤ 1048576 := by rw [hdl]; exact srvs_pol hbz (List.mem_map.2 ⟨d, List.mem_of_getElem? hd, rfl⟩)
  have hdf : dx.files.l.length ≤ 1048576 := by
   have h9 := lsum_le (f := TServer.size) (List.mem_map.2 ⟨d, List.mem_of_getElem? hd, rfl⟩ : PServer.lg d ∈ l.l.map PServer.lg)
   rw [← hdl] at h9
   simp only [TServer.size, lsz, PServer.lg] at h9 hbz; omega
  refine WC.skipn ?_
  refine WC.seq' ?_
  refine WC.quietn mixed Q6 hs ?_
  refine WQ.p Q0 (fun w hs => Yl.move Q0) ?_
  refine WQ.p Q0 (fun w hs => Yl.move Q0) ?_
  refine WQ.p Q0 (fun w hs => Yl.indexAddr slt56 Q0 Q0 (hs.okow (x := x3) (F := F3) Q1) (by first | exact hj2 | exact hj | rfl | exact congrArg (fun n : Nat => (n : Int)) hlx) (hdx)) ?_
  refine WQ.p Q0 (fun w hs => Yl.loadA agg112 Q0 (Sl.Ok.at_ (hs.okow (x := x3) (F := F3) Q1) (by assumption)).2 Q0) ?_
  refine WQ.p Q0 (fun w hs => Yl.fieldAddr fa43_1 Q0) ?_
  refine WQ.p Q0 (fun w hs => Yl.loadB sca9 Q0 hs Q1 Q0) ?_
  refine WQ.callp Q0 (fun w => Yc.func Q0 fn88) (fun w hs => (c_impl_fileAt _ _ _ (Sl.Ok.elem (hs.okow (x := x3) (F := F3) Q1) hdx))) (fun _ _ hs hb => hs.ext hb) ?_
  refine WQ.p Q0 (fun w hs => Yl.assign Q0) ?_
  refine WQ.next ?_
  clear hs; intro w hs
  refine WC.seq ?_
  refine Qm ?_
  refine WL.p Q0 (Yl.geq Q0 Q0) ?_
  refine WL.next ?_
  refine WC.condS Q0 (fun h2 => ?_) (fun h2 => ?_)
  ·
   replace h2 := of_decide_eq_true h2
   obtain ⟨j2, d2, hj2, hd2, hf2⟩ := idxF_some (Int.not_lt.2 h2)
   rw [Nat.zero_add] at hj2
   refine WC.anyX (K := [ow x3 F3]) mixed hs Q2 ?_
   clear hs; intro w hs
   refine WA.p (i := 0) Q0 Q6 Q6 Q6 Q0 (hs.only Q2) (fun w hs => Yl.move Q0) ?_
   refine WA.p (i := 1) Q0 Q6 Q6 Q6 Q0 (hs.only Q2) (fun w hs => Yl.move Q0) ?_
   have hadr1500 := (Sl.Ok.at_ (hs.okow (x := x3) (F := F3) Q1) (hdx)).1
   refine WA.p (i := 2) Q0 Q6 Q6 Q6 Q0 (hs.only Q2) (fun w hs => Yl.indexAddrA slt56 Q0 Q0 hadr1500 (by first | exact hj2 | exact hj | rfl | exact congrArg (fun n : Nat => (n : Int)) hlx) (hdx)) ?_
   refine WA.p (i := 3) Q0 Q6 Q6 Q6 Q0 (hs.only Q2) (fun w hs => Yl.fieldAddr fa112_1 Q0) ?_
   refine WA.p (i := 5) Q0 Q6 Q6 Q6 Q0 (hs.only Q2) (fun w hs => Yl.move Q0) ?_
   refine WA.p (i := 6) Q0 Q6 Q6 Q6 Q0 (hs.only Q2) (fun w hs => Yl.loadAB agg45 Q0 hs Q1 Q0 Q0) ?_
   refine WA.r (i := 4) Q6 Q0 Q0 (Yl.yr (Yl.loadC sca110 Q0 (Sl.Ok.at_ (hs.okow (x := x3) (F := F3) Q1) (by assumption)).2 Q0)) (by rintro _ _ ⟨rfl, rfl⟩; exact hs.only Q2) ?_
   rintro _ _ ⟨rfl, rfl⟩
   have hadr1501 := (Sl.Ok.at_ (Sl.Ok.elem (hs.okow (x := x3) (F := F3) Q1) hdx).files (hd2)).1
   refine WA.p (i := 7) Q0 Q6 Q6 Q6 Q0 (hs.only Q2) (fun w hs => Yl.indexAddrA slt110 Q0 Q0 hadr1501 (by first | exact hj2 | exact hj | rfl | exact congrArg (fun n : Nat => (n : Int)) hlx) (hd2)) ?_
   refine WA.p (i := 8) Q0 Q6 Q6 Q6 Q0 (hs.only Q2) (fun w hs => Yl.fieldAddr fa115_1 Q0) ?_
   obtain ⟨G16, B16, hs⟩ := Sat.lend (hs.sel (D := [ow x3 F3]) Q2) hdx
   obtain ⟨K16, hfl16, hs⟩ := PServer.split hs
   try simp only [List.cons_append, List.nil_append] at hs
   have hel16 := Sl.Ok.elem (hs.okow (x := dx.files) (F := K16) Q1) hd2
   refine WA.s (i := 9) Q6 Q0 (Yr.storeP (s := dx.files) (F := K16) (d := d2) (u := (⟨d2.path, y⟩ : TFile)) (k := j2) (j := 1) hs Q2 Q0 Q0 Q0 hd2 ⟨_, by rfl, by rfl⟩ Q3 (by exact own_part_flat ⟨hel16.path, (by first | assumption | exact Flat.any (by assumption) | (refine Ph.old ?_ hs; assumption))⟩) Q0 (by exact szf45)) (by rintro _ w ⟨a16, _, rfl, hw16, hm16, _, hs⟩; exact hs.only Q2) ?_
   clear hs; rintro _ w ⟨a16, _, rfl, hw16, hm16, _, hs⟩
   replace hs := PServer.join (⟨dx.host, a16⟩ : PServer) (hs.sel (D := [ow a16 K16]) Q2) (Flat.any hfl16.1)
   try simp only [List.cons_append, List.nil_append] at hs
   obtain ⟨s16, F16, hv16, hl16, hg16, hs⟩ := Sat.back (s := x3) (k := j) (d := dx) (hs.sel (D := [ow (⟨dx.host, a16⟩ : PServer) K16, hl x3 j G16]) Q2) hdx (by show [S (⟨dx.host, a16⟩ : PServer).host, Sl.v a16] = [S dx.host, Sl.v dx.files]; rw [hw16])
   try simp only [List.cons_append, List.nil_append] at hs
   refine WA.done Q6 ?_
   refine At.then_ ?_
   refine WC.seq' ?_
   refine WC.seq ?_
   refine Qm ?_
   refine WL.p Q0 (Yl.len_sl slu56 Q0) ?_
   refine WL.p Q0 (Yl.gtr Q0 Q0) ?_
   refine Qm ?_
   refine WL.split (d := 63) Q0 (fun h3 => ?_) (fun h3 => ?_)
   ·
    replace h3 := of_decide_eq_true h3
    refine WL.skip (d := 63) Q0 Q0 Q0 Q0 ?_
    refine WL.skip (d := 63) Q0 Q0 Q0 Q0 ?_
    refine WL.skip (d := 63) Q0 Q0 Q0 Q0 ?_
    refine WL.skip (d := 63) Q0 Q0 Q0 Q0 ?_
    refine WL.skip (d := 63) Q0 Q0 Q0 Q0 ?_
    refine WL.skip (d := 63) Q0 Q0 Q0 Q0 ?_
    refine WL.p Q0 (Yl.pickT Q0 Q0) ?_
    refine WL.next ?_
    refine WC.condT Q0 ?_
    refine WC.seq ?_
    refine Qm ?_
    refine WL.call hs Q0 (Yc.func Q0 fn86) (c_impl_copyServers _ _ (Ph.old h_l hs) (by exact hbz)) ?_
    have hs0 := hs; clear hs; intro v w hb hR hs; clear hs
    obtain ⟨x17, rfl, hx17, hf17⟩ := hR
    obtain ⟨F17, hs⟩ := hf17.sat hs0 hb; clear hs0 hf17
    have hle17 := Sl.Ok.le (hs.okow (x := x17) (F := F17) Q1)
    refine Qa ?_
    refine Qa ?_
    refine WL.next ?_
    refine WC.ret ?_
    refine At.thenret ?_
    refine fin2' rfl Q0 Q0 ?_
    refine Ret.mk hs ?_
    have hjL : idxF (onHost a.host) (l.l.map PServer.lg) 0 = (j : Int) := by rw [idx_host]; exact hj
    have hw9 : x3.l.map PServer.lg = withHost (l.l.map PServer.lg) a.host := by rw [(host_hit hjL).1]; exact hx3
    have hi9 : hostIx (l.l.map PServer.lg) a.host = j := (host_hit hjL).2
    have hd9 := hdx
    have hu9 : PServer.lg (⟨dx.host, a16⟩ : PServer) = putOn (PServer.lg dx) a.path y := by
     rw [putOn_found (s := PServer.lg dx) hj2 hd2]
     simp only [PServer.lg, hm16]
    have hall9 : s16.l.map PServer.lg = putAll (l.l.map PServer.lg) a y := by rw [hl16]; exact put_all hw9 hi9 hd9 hu9
    have hpi9 := put_is hall9 hi9 hg16
    have hln9 : s16.l.length = x3.l.length := by rw [hl16, List.length_set]
    rw [hln9] at hpi9
    have hb9 : putIs (l.l.map PServer.lg) a y = false := by
     clear hs
     rw [hpi9]
     first
      | (simp_all; done)
      | (simp_all; omega)
      | (rw [Bool.and_eq_false_iff]; left; exact decide_eq_false Q7)
      | (rw [Bool.and_eq_true]; exact ⟨decide_eq_true Q7, by simp_all⟩)
      | (rw [Bool.and_eq_false_iff]; right; simp_all)
    exact ⟨x17, by rw [hb9], hx17.trans (putFile_no hb9).symm, hs.fresh Q1⟩
   ·
    replace h3 := of_decide_eq_false h3
    refine WL.run (d := 63) Q0 Q0 ?_
    refine Qm ?_
    refine WL.run (d := 63) Q0 Q0 ?_
    refine Qm ?_
    refine WL.run (d := 63) Q0 Q0 ?_
    refine WL.p Q0 (Yl.indexAddrV slt56 Q0 hv16 Q0 (hs.okow (x := s16) (F := F16) Q1) (by first | exact hj2 | exact hj | rfl | exact congrArg (fun n : Nat => (n : Int)) hlx) (hg16)) ?_
    refine WL.run (d := 63) Q0 Q0 ?_
    refine WL.p Q0 (Yl.loadA agg112 Q0 (Sl.Ok.at_ (hs.okow (x := s16) (F := F16) Q1) (by assumption)).2 Q0) ?_
    refine WL.run (d := 63) Q0 Q0 ?_
    have hjL : idxF (onHost a.host) (l.l.map PServer.lg) 0 = (j : Int) := by rw [idx_host]; exact hj
    have hw9 : x3.l.map PServer.lg = withHost (l.l.map PServer.lg) a.host := by rw [(host_hit hjL).1]; exact hx3
    have hi9 : hostIx (l.l.map PServer.lg) a.host = j := (host_hit hjL).2
    have hd9 := hdx
    have hu9 : PServer.lg (⟨dx.host, a16⟩ : PServer) = putOn (PServer.lg dx) a.path y := by
     rw [putOn_found (s := PServer.lg dx) hj2 hd2]
     simp only [PServer.lg, hm16]
    have hall9 : s16.l.map PServer.lg = putAll (l.l.map PServer.lg) a y := by rw [hl16]; exact put_all hw9 hi9 hd9 hu9
    have hpi9 := put_is hall9 hi9 hg16
    have hln9 : s16.l.length = x3.l.length := by rw [hl16, List.length_set]
    rw [hln9] at hpi9
    refine WL.callp hs Q0 (Yc.func Q0 fn89) (c_impl_IsServer _ _ (Sl.Ok.elem (hs.okow (x := s16) (F := F16) Q1) hg16) (by show ∀ f ∈ (PServer.lg _).files, _; rw [hu9]; exact putOn_pol hDp hpy) (by first | assumption | exact Sat.cellm hs (by assumption))) ?_
    clear hs; intro w hs
    refine WL.run (d := 63) Q0 Q0 ?_
    refine WL.p Q0 (Yl.not Q0) ?_
    refine WL.p Q0 (Yl.pickF Q0 Q0) ?_
    refine WL.next ?_
    refine WC.condS Q0 (fun h4 => ?_) (fun h4 => ?_)
    ·
     replace h4 := not_eq_true h4
     refine WC.seq ?_
     refine Qm ?_
     refine WL.call hs Q0 (Yc.func Q0 fn86) (c_impl_copyServers _ _ (Ph.old h_l hs) (by exact hbz)) ?_
     have hs0 := hs; clear hs; intro v w hb hR hs; clear hs
     obtain ⟨x18, rfl, hx18, hf18⟩ := hR
     obtain ⟨F18, hs⟩ := hf18.sat hs0 hb; clear hs0 hf18
     have hle18 := Sl.Ok.le (hs.okow (x := x18) (F := F18) Q1)
     refine Qa ?_
     refine Qa ?_
     refine WL.next ?_
     refine WC.ret ?_
     refine At.thenret ?_
     refine fin2' rfl Q0 Q0 ?_
     refine Ret.mk hs ?_
     have hjL : idxF (onHost a.host) (l.l.map PServer.lg) 0 = (j : Int) := by rw [idx_host]; exact hj
     have hw9 : x3.l.map PServer.lg = withHost (l.l.map PServer.lg) a.host := by rw [(host_hit hjL).1]; exact hx3
     have hi9 : hostIx (l.l.map PServer.lg) a.host = j := (host_hit hjL).2
     have hd9 := hdx
     have hu9 : PServer.lg (⟨dx.host, a16⟩ : PServer) = putOn (PServer.lg dx) a.path y := by
      rw [putOn_found (s := PServer.lg dx) hj2 hd2]
      simp only [PServer.lg, hm16]
     have hall9 : s16.l.map PServer.lg = putAll (l.l.map PServer.lg) a y := by rw [hl16]; exact put_all hw9 hi9 hd9 hu9
     have hpi9 := put_is hall9 hi9 hg16
     have hln9 : s16.l.length = x3.l.length := by rw [hl16, List.length_set]
     rw [hln9] at hpi9
     have hb9 : putIs (l.l.map PServer.lg) a y = false := by
      clear hs
      rw [hpi9]
      first
       | (simp_all; done)
       | (simp_all; omega)
       | (rw [Bool.and_eq_false_iff]; left; exact decide_eq_false Q7)
       | (rw [Bool.and_eq_true]; exact ⟨decide_eq_true Q7, by simp_all⟩)
       | (rw [Bool.and_eq_false_iff]; right; simp_all)
     exact ⟨x18, by rw [hb9], hx18.trans (putFile_no hb9).symm, hs.fresh Q1⟩
    ·
     replace h4 := not_eq_false h4
     refine WC.skipn ?_
     refine WC.seq ?_
     refine Qm ?_
     refine Qa ?_
     refine Qa ?_
     refine WL.next ?_
     refine WC.ret ?_
     refine fin2' rfl Q0 Q0 ?_
     refine Ret.mk hs ?_
     have hjL : idxF (onHost a.host) (l.l.map PServer.lg) 0 = (j : Int) := by rw [idx_host]; exact hj
     have hw9 : x3.l.map PServer.lg = withHost (l.l.map PServer.lg) a.host := by rw [(host_hit hjL).1]; exact hx3
     have hi9 : hostIx (l.l.map PServer.lg) a.host = j := (host_hit hjL).2
     have hd9 := hdx
     have hu9 : PServer.lg (⟨dx.host, a16⟩ : PServer) = putOn (PServer.lg dx) a.path y := by
      rw [putOn_found (s := PServer.lg dx) hj2 hd2]
      simp only [PServer.lg, hm16]
     have hall9 : s16.l.map PServer.lg = putAll (l.l.map PServer.lg) a y := by rw [hl16]; exact put_all hw9 hi9 hd9 hu9
     have hpi9 := put_is hall9 hi9 hg16
     have hln9 : s16.l.length = x3.l.length := by rw [hl16, List.length_set]
     rw [hln9] at hpi9
     have hb9 : putIs (l.l.map PServer.lg) a y = true := by
      clear hs
      rw [hpi9]
      first
       | (simp_all; done)
       | (simp_all; omega)
       | (rw [Bool.and_eq_false_iff]; left; exact decide_eq_false Q7)
       | (rw [Bool.and_eq_true]; exact ⟨decide_eq_true Q7, by simp_all⟩)
       | (rw [Bool.and_eq_false_iff]; right; simp_all)
     exact ⟨s16, by rw [hb9]; exact congrArg (fun z => Value.tuple #[z, Bo true]) (hv16).symm, hall9.trans (putFile_yes hb9).symm, hs.fresh Q1⟩
  ·
   replace h2 := of_decide_eq_false h2
   refine WC.anyX (K := [ow x3 F3]) mixed hs Q2 ?_
   clear hs; intro w hs
   refine WA.p (i := 0) Q0 Q6 Q6 Q6 Q0 (hs.only Q2) (fun w hs => Yl.move Q0) ?_
   refine WA.p (i := 1) Q0 Q6 Q6 Q6 Q0 (hs.only Q2) (fun w hs => Yl.move Q0) ?_
   refine WA.p (i := 2) Q0 Q6 Q6 Q6 Q0 (hs.only Q2) (fun w hs => Yl.move Q0) ?_
   refine WA.p (i := 3) Q0 Q6 Q6 Q6 Q0 (hs.only Q2) (fun w hs => Yl.move Q0) ?_
   have hadr1800 := (Sl.Ok.at_ (hs.okow (x := x3) (F := F3) Q1) (hdx)).1
   refine WA.p (i := 4) Q0 Q6 Q6 Q6 Q0 (hs.only Q2) (fun w hs => Yl.indexAddrA slt56 Q0 Q0 hadr1800 (by first | exact hj2 | exact hj | rfl | exact congrArg (fun n : Nat => (n : Int)) hlx) (hdx)) ?_
   refine WA.p (i := 5) Q0 Q6 Q6 Q6 Q0 (hs.only Q2) (fun w hs => Yl.fieldAddr fa112_1 Q0) ?_
   refine WA.p (i := 7) Q0 Q6 Q6 Q6 Q0 (hs.only Q2) (fun w hs => Yl.fieldAddr fa43_1 Q0) ?_
   refine WA.p (i := 8) Q0 Q6 Q6 Q6 Q0 (hs.only Q2) (fun w hs => Yl.loadB sca9 Q0 hs Q1 Q0) ?_
   refine WA.p (i := 9) Q0 Q6 Q6 Q6 Q0 (hs.only Q2) (fun w hs => Yl.loadAB agg45 Q0 hs Q1 Q0 Q0) ?_
   refine WA.p (i := 10) Q0 Q6 Q6 Q6 Q0 (hs.only Q2) (fun w hs => Yl.build bt115 Q0 Q4) ?_
   refine WA.dag' [(⟨6, 51, [], (fun _ v cs => v = Sl.v dx.files ∧ cs = [])⟩, []), (⟨11, 56, [], (fun _ v cs => ∃ b, v = .slice (some ⟨b, 0, none⟩) 1 1 ∧ cs = [box b 115 ((Ph.enc ((⟨a.path, y⟩ : TFile))))])⟩, [])] [false, false] [(0, _), (1, _), (2, _), (4, _), (5, _), (6, _), (7, _), (8, _), (9, _), (10, _), (11, _), (12, _), (13, _), (14, _), (15, _), (16, _), (17, _), (18, _), (27, _), (28, _), (29, _), (30, _), (31, _), (32, _), (33, _), (34, _), (35, _), (45, _), (46, _), (47, _), (48, _), (49, _), (50, _), (52, _), (53, _), (54, _), (55, _)] ⟨by rfl, by rfl, by rfl, by rfl, by rfl, by rfl, by rfl, by rfl, by rfl, by rfl, by rfl, by rfl, by rfl, by rfl, by rfl, by rfl, by rfl, by rfl, by rfl, by rfl, by rfl, by rfl, by rfl, by rfl, by rfl, by rfl, by rfl, by rfl, by rfl, by rfl, by rfl, by rfl, by rfl, by rfl, by rfl, by rfl, by rfl, trivial⟩ Q0 Q6 Q6 Q6 Q6 Q6 Q6 Q6 Q6 (fun _ hs => hs.only Q2) hs (fuel := 4) ⟨⟨local_const, ?_⟩, ⟨local_const, ?_⟩, trivial⟩ ?_
   ·
    clear hs
    intro w R hs
    simp only [List.cons_append, List.nil_append] at hs
    exact Gives.p' Q0 (Yl.loadC sca110 Q0 (Sl.Ok.at_ (hs.okow (x := x3) (F := F3) Q1) (by assumption)).2 Q0) ⟨[], ⟨rfl, rfl⟩, hs⟩
   ·
    clear hs
    intro w R hs
    simp only [List.cons_append, List.nil_append] at hs
    exact Gives.rr' Q0 (Yr.buildSlice hs sll110 Q0 Q0 Q0 Q4 Q0) (fun _ _ ⟨b, hv, _, hs1⟩ => ⟨[box b 115 ((Ph.enc ((⟨a.path, y⟩ : TFile))))], ⟨b, hv, rfl⟩, hs1⟩)
   clear hs
   rintro _ _ ⟨rfl, rfl⟩
   rintro _ _ ⟨b20, rfl, rfl⟩
   intro w hs
   simp only [List.cons_append, List.nil_append, cond_true, cond_false] at hs
   obtain ⟨G21, B21, hs⟩ := Sat.lend (hs.sel (D := [ow x3 F3]) Q2) hdx
   obtain ⟨K21, hfl21, hs⟩ := PServer.split hs
   try simp only [List.cons_append, List.nil_append] at hs
   refine WA.r (i := 12) Q6 Q0 Q0 (Yr.append (s := dx.files) (F := K21) hs elt110 Q2 Q0 Q0 rfl (xs := [(⟨a.path, y⟩ : TFile)]) (hs.box_cells Q1) (by intro x hx; obtain rfl := List.mem_singleton.1 hx; exact ⟨Flat.any h_a.path, Flat.any h_y⟩) (by first | (rw [hlx]; unfold maxLen; omega) | (simp only [List.length_nil, List.length_singleton]; unfold maxLen; omega) | (simp; unfold maxLen; omega)) (by first | (rw [hlx]; omega) | omega | (simp only [List.length_nil, List.length_singleton]; omega) | (simp; omega))) (by rintro _ w ⟨s22, F22, rfl, hl22, hs⟩; exact hs.only Q2) ?_
   clear hs; rintro _ w ⟨s22, F22, rfl, hl22, hs⟩
   refine WA.p (i := 13) Q0 Q6 Q6 Q6 Q0 (hs.only Q2) (fun w hs => Yl.indexAddrA slt56 Q0 Q0 hadr1800 (by first | exact hj2 | exact hj | rfl | exact congrArg (fun n : Nat => (n : Int)) hlx) (hdx)) ?_
   refine WA.p (i := 14) Q0 Q6 Q6 Q6 Q0 (hs.only Q2) (fun w hs => Yl.fieldAddr fa112_1 Q0) ?_
   replace hs := PServer.join (⟨dx.host, s22⟩ : PServer) (hs.sel (D := [ow s22 F22]) Q2) (Flat.any hfl21.1)
   try simp only [List.cons_append, List.nil_append] at hs
   refine WA.s (i := 15) Q6 Q0 (Yr.storeHole (s := x3) (G := G21) (B := F22) (d := dx) (u := (⟨dx.host, s22⟩ : PServer)) (k := j) (j := 1) hs Q2 Q0 Q0 Q0 hdx ⟨_, by rfl, by rfl⟩ Q3 Q0 (by exact szf110)) (by rintro _ w ⟨s23, F23, hv23, hl23, hg23, hs⟩; exact hs.only Q2) ?_
   clear hs; rintro _ w ⟨s23, F23, hv23, hl23, hg23, hs⟩
   refine WA.done Q6 ?_
   refine At.then_ ?_
   refine WC.seq' ?_
   refine WC.seq ?_
   refine Qm ?_
   refine WL.p Q0 (Yl.len_sl slu56 Q0) ?_
   refine WL.p Q0 (Yl.gtr Q0 Q0) ?_
   refine Qm ?_
   refine WL.split (d := 63) Q0 (fun h3 => ?_) (fun h3 => ?_)
   ·
    replace h3 := of_decide_eq_true h3
    refine WL.skip (d := 63) Q0 Q0 Q0 Q0 ?_
    refine WL.skip (d := 63) Q0 Q0 Q0 Q0 ?_
    refine WL.skip (d := 63) Q0 Q0 Q0 Q0 ?_
    refine WL.skip (d := 63) Q0 Q0 Q0 Q0 ?_
    refine WL.skip (d := 63) Q0 Q0 Q0 Q0 ?_
    refine WL.skip (d := 63) Q0 Q0 Q0 Q0 ?_
    refine WL.p Q0 (Yl.pickT Q0 Q0) ?_
    refine WL.next ?_
    refine WC.condT Q0 ?_
    refine WC.seq ?_
    refine Qm ?_
    refine WL.call hs Q0 (Yc.func Q0 fn86) (c_impl_copyServers _ _ (Ph.old h_l hs) (by exact hbz)) ?_
    have hs0 := hs; clear hs; intro v w hb hR hs; clear hs
    obtain ⟨x24, rfl, hx24, hf24⟩ := hR
    obtain ⟨F24, hs⟩ := hf24.sat hs0 hb; clear hs0 hf24
    have hle24 := Sl.Ok.le (hs.okow (x := x24) (F := F24) Q1)
    refine Qa ?_
    refine Qa ?_
    refine WL.next ?_
    refine WC.ret ?_
    refine At.thenret ?_
    refine fin2' rfl Q0 Q0 ?_
    refine Ret.mk hs ?_
    have hjL : idxF (onHost a.host) (l.l.map PServer.lg) 0 = (j : Int) := by rw [idx_host]; exact hj
    have hw9 : x3.l.map PServer.lg = withHost (l.l.map PServer.lg) a.host := by rw [(host_hit hjL).1]; exact hx3
    have hi9 : hostIx (l.l.map PServer.lg) a.host = j := (host_hit hjL).2
    have hd9 := hdx
    have hu9 : PServer.lg (⟨dx.host, s22⟩ : PServer) = putOn (PServer.lg dx) a.path y := by
     rw [putOn_new (s := PServer.lg dx) (Int.not_le.1 h2)]
     simp only [PServer.lg, hl22]
    have hall9 : s23.l.map PServer.lg = putAll (l.l.map PServer.lg) a y := by rw [hl23]; exact put_all hw9 hi9 hd9 hu9
    have hpi9 := put_is hall9 hi9 hg23
    have hln9 : s23.l.length = x3.l.length := by rw [hl23, List.length_set]
    rw [hln9] at hpi9
    have hb9 : putIs (l.l.map PServer.lg) a y = false := by
     clear hs
     rw [hpi9]
     first
      | (simp_all; done)
      | (simp_all; omega)
      | (rw [Bool.and_eq_false_iff]; left; exact decide_eq_false Q7)
      | (rw [Bool.and_eq_true]; exact ⟨decide_eq_true Q7, by simp_all⟩)
      | (rw [Bool.and_eq_false_iff]; right; simp_all)
    exact ⟨x24, by rw [hb9], hx24.trans (putFile_no hb9).symm, hs.fresh Q1⟩
   ·
    replace h3 := of_decide_eq_false h3
    refine WL.run (d := 63) Q0 Q0 ?_
    refine Qm ?_
    refine WL.run (d := 63) Q0 Q0 ?_
    refine Qm ?_
    refine WL.run (d := 63) Q0 Q0 ?_
    refine WL.p Q0 (Yl.indexAddrV slt56 Q0 hv23 Q0 (hs.okow (x := s23) (F := F23) Q1) (by first | exact hj2 | exact hj | rfl | exact congrArg (fun n : Nat => (n : Int)) hlx) (hg23)) ?_
    refine WL.run (d := 63) Q0 Q0 ?_
    refine WL.p Q0 (Yl.loadA agg112 Q0 (Sl.Ok.at_ (hs.okow (x := s23) (F := F23) Q1) (by assumption)).2 Q0) ?_
    refine WL.run (d := 63) Q0 Q0 ?_
    have hjL : idxF (onHost a.host) (l.l.map PServer.lg) 0 = (j : Int) := by rw [idx_host]; exact hj
    have hw9 : x3.l.map PServer.lg = withHost (l.l.map PServer.lg) a.host := by rw [(host_hit hjL).1]; exact hx3
    have hi9 : hostIx (l.l.map PServer.lg) a.host = j := (host_hit hjL).2
    have hd9 := hdx
    have hu9 : PServer.lg (⟨dx.host, s22⟩ : PServer) = putOn (PServer.lg dx) a.path y := by
     rw [putOn_new (s := PServer.lg dx) (Int.not_le.1 h2)]
     simp only [PServer.lg, hl22]
    have hall9 : s23.l.map PServer.lg = putAll (l.l.map PServer.lg) a y := by rw [hl23]; exact put_all hw9 hi9 hd9 hu9
    have hpi9 := put_is hall9 hi9 hg23
    have hln9 : s23.l.length = x3.l.length := by rw [hl23, List.length_set]
    rw [hln9] at hpi9
    refine WL.callp hs Q0 (Yc.func Q0 fn89) (c_impl_IsServer _ _ (Sl.Ok.elem (hs.okow (x := s23) (F := F23) Q1) hg23) (by show ∀ f ∈ (PServer.lg _).files, _; rw [hu9]; exact putOn_pol hDp hpy) (by first | assumption | exact Sat.cellm hs (by assumption))) ?_
    clear hs; intro w hs
    refine WL.run (d := 63) Q0 Q0 ?_
    refine WL.p Q0 (Yl.not Q0) ?_
    refine WL.p Q0 (Yl.pickF Q0 Q0) ?_
    refine WL.next ?_
    refine WC.condS Q0 (fun h4 => ?_) (fun h4 => ?_)
    ·
     replace h4 := not_eq_true h4
     refine WC.seq ?_
     refine Qm ?_
     refine WL.call hs Q0 (Yc.func Q0 fn86) (c_impl_copyServers _ _ (Ph.old h_l hs) (by exact hbz)) ?_
     have hs0 := hs; clear hs; intro v w hb hR hs; clear hs
     obtain ⟨x25, rfl, hx25, hf25⟩ := hR
     obtain ⟨F25, hs⟩ := hf25.sat hs0 hb; clear hs0 hf25
     have hle25 := Sl.Ok.le (hs.okow (x := x25) (F := F25) Q1)
     refine Qa ?_
     refine Qa ?_
     refine WL.next ?_
     refine WC.ret ?_
     refine At.thenret ?_
     refine fin2' rfl Q0 Q0 ?_
     refine Ret.mk hs ?_
     have hjL : idxF (onHost a.host) (l.l.map PServer.lg) 0 = (j : Int) := by rw [idx_host]; exact hj
     have hw9 : x3.l.map PServer.lg = withHost (l.l.map PServer.lg) a.host := by rw [(host_hit hjL).1]; exact hx3
     have hi9 : hostIx (l.l.map PServer.lg) a.host = j := (host_hit hjL).2
     have hd9 := hdx
     have hu9 : PServer.lg (⟨dx.host, s22⟩ : PServer) = putOn (PServer.lg dx) a.path y := by
      rw [putOn_new (s := PServer.lg dx) (Int.not_le.1 h2)]
      simp only [PServer.lg, hl22]
     have hall9 : s23.l.map PServer.lg = putAll (l.l.map PServer.lg) a y := by rw [hl23]; exact put_all hw9 hi9 hd9 hu9
     have hpi9 := put_is hall9 hi9 hg23
     have hln9 : s23.l.length = x3.l.length := by rw [hl23, List.length_set]
     rw [hln9] at hpi9
     have hb9 : putIs (l.l.map PServer.lg) a y = false := by
      clear hs
      rw [hpi9]
      first
       | (simp_all; done)
       | (simp_all; omega)
       | (rw [Bool.and_eq_false_iff]; left; exact decide_eq_false Q7)
       | (rw [Bool.and_eq_true]; exact ⟨decide_eq_true Q7, by simp_all⟩)
       | (rw [Bool.and_eq_false_iff]; right; simp_all)
     exact ⟨x25, by rw [hb9], hx25.trans (putFile_no hb9).symm, hs.fresh Q1⟩
    ·
     replace h4 := not_eq_false h4
     refine WC.skipn ?_
     refine WC.seq ?_
     refine Qm ?_
     refine Qa ?_
     refine Qa ?_
     refine WL.next ?_
     refine WC.ret ?_
     refine fin2' rfl Q0 Q0 ?_
     refine Ret.mk hs ?_
     have hjL : idxF (onHost a.host) (l.l.map PServer.lg) 0 = (j : Int) := by rw [idx_host]; exact hj
     have hw9 : x3.l.map PServer.lg = withHost (l.l.map PServer.lg) a.host := by rw [(host_hit hjL).1]; exact hx3
     have hi9 : hostIx (l.l.map PServer.lg) a.host = j := (host_hit hjL).2
     have hd9 := hdx
     have hu9 : PServer.lg (⟨dx.host, s22⟩ : PServer) = putOn (PServer.lg dx) a.path y := by
      rw [putOn_new (s := PServer.lg dx) (Int.not_le.1 h2)]
      simp only [PServer.lg, hl22]
     have hall9 : s23.l.map PServer.lg = putAll (l.l.map PServer.lg) a y := by rw [hl23]; exact put_all hw9 hi9 hd9 hu9
     have hpi9 := put_is hall9 hi9 hg23
     have hln9 : s23.l.length = x3.l.length := by rw [hl23, List.length_set]
     rw [hln9] at hpi9
     have hb9 : putIs (l.l.map PServer.lg) a y = true := by
      clear hs
      rw [hpi9]
      first
       | (simp_all; done)
       | (simp_all; omega)
       | (rw [Bool.and_eq_false_iff]; left; exact decide_eq_false Q7)
       | (rw [Bool.and_eq_true]; exact ⟨decide_eq_true Q7, by simp_all⟩)
       | (rw [Bool.and_eq_false_iff]; right; simp_all)
     exact ⟨s23, by rw [hb9]; exact congrArg (fun z => Value.tuple #[z, Bo true]) (hv23).symm, hall9.trans (putFile_yes hb9).symm, hs.fresh Q1⟩

theorem c_slices_EqualFunc___impl_Server___impl_Server_impl_Server_impl_Server_ (s1 : (Sl PServer)) (s2 : (Sl PServer)) (eq : FuncId) (us_eq : List Value) (p_eq : PServer → PServer → Bool) (w : World) (h_s1 : Ph.ok w s1) (h_s2 : Ph.ok w s2)  (hfn_eq : FN Tryd.prog eq) (hf_eq : ∀ x ∈ s1.l, ∀ y ∈ s2.l, ∀ w', Below w.heap.size w w' → Calls Tryd.prog eq (([.agg (Ph.enc x).toArray, .agg (Ph.enc y).toArray] : List Value) ++ us_eq).toArray w' (RetP w' (Bo (p_eq x y)))) : Calls Tryd.prog 94 [Sl.v s1, Sl.v s2, .func (.func eq) #[] us_eq.toArray].toArray w (RetP w (Bo (eqWith p_eq s1.l s2.l))) := by
 have hw := h_s1.lt
 refine enterN 32 Tryd.func94 rfl rfl rfl ?_
 have hs := Sat.start w
 refine WC.seq ?_
 refine Qa ?_
 refine WL.next ?_
 refine WC.seq' ?_
 refine WC.seq ?_
 refine Qm ?_
 refine WL.p Q0 (Yl.len_sl slu56 Q0) ?_
 refine Qm ?_
 refine WL.p Q0 (Yl.len_sl slu56 Q0) ?_
 refine WL.p Q0 (Yl.nei Q0 Q0) ?_
 refine WL.next ?_
 refine WC.condS Q0 (fun h1 => ?_) (fun h1 => ?_)
 ·
  replace h1 := not_eq_true h1
  replace h1 := of_decide_eq_false h1
  refine WC.seq ?_
  refine Qa ?_
  refine WL.next ?_
  refine WC.ret ?_
  refine At.thenret ?_
  refine fin1' rfl Q0 ?_
  refine RetP.mk hs ?_
  rw [eqWith_len Q7]
 ·
  replace h1 := not_eq_false h1
  replace h1 := of_decide_eq_true h1
  refine WC.skipn ?_
  refine WC.seq' ?_
  refine WC.seq ?_
  refine Qm ?_
  refine WL.p Q0 (Yl.len_sl slu56 Q0) ?_
  refine Qm ?_
  refine WL.next ?_
  refine WC.block ?_
  refine WC.loopC (ι := Nat) (fun k => s1.l.length - k) (fun k => [(17, I (k : Int))]) (fun _ => []) (fun k => eqWith p_eq s1.l s2.l = eqWith p_eq (s1.l.drop k) (s2.l.drop k)) [(0, _), (1, _), (2, _), (14, _), (15, _), (16, _)] 0 (hs) ⟨by rfl, by rfl, by rfl, by rfl, by rfl, by rfl, trivial⟩ ⟨by rfl, trivial⟩ ?_ ?_
  ·
   simp
  clear hs; rintro k w hJ hs
  simp only [List.nil_append] at hs
  refine WC.seq ?_
  refine WL.p Q0 (Yl.lss Q0 Q0) ?_
  refine WL.next ?_
  refine WC.seq' ?_
  refine WC.condS Q0 (fun h2 => ?_) (fun h2 => ?_)
  ·
   replace h2 := of_decide_eq_true h2
   obtain ⟨d, hd⟩ := exists_get (l := s1.l) (k := k) Q7
   obtain ⟨d2, hd2⟩ := exists_get (l := s2.l) (k := k) Q7
   rw [drop_cons hd, drop_cons hd2] at hJ
   refine WC.skipn ?_
   refine WC.seq' ?_
   refine WC.block ?_
   refine WC.seq ?_
   refine Qm ?_
   refine WL.p Q0 (Yl.indexAddr slt56 Q0 Q0 (Ph.old h_s1 hs) Q0 (hd)) ?_
   refine WL.p Q0 (Yl.loadA agg112 Q0 (Sl.Ok.at_ (Ph.old h_s1 hs) (by assumption)).2 Q0) ?_
   refine WL.r Q0 (Yr.alloc hs zt112) ?_
   clear hs; rintro _ w ⟨b1, rfl, hb, hs⟩; clear hb
   refine Qa ?_
   refine WL.s (Yr.storeB hs Q0 Q0 Q0 Q5 Q3 Q0 (by exact szf112)) ?_
   clear hs; rintro _ w hs
   refine WL.next ?_
   refine WC.seq ?_
   refine Qm ?_
   refine Qm ?_
   refine WL.p Q0 (Yl.indexAddr slt56 Q0 Q0 (Ph.old h_s2 hs) Q0 (hd2)) ?_
   refine WL.p Q0 (Yl.loadA agg112 Q0 (Sl.Ok.at_ (Ph.old h_s2 hs) (by assumption)).2 Q0) ?_
   refine WL.r Q0 (Yr.alloc hs zt112) ?_
   clear hs; rintro _ w ⟨b2, rfl, hb, hs⟩; clear hb
   refine WL.s (Yr.storeB hs Q0 Q0 Q0 Q5 Q3 Q0 (by exact szf112)) ?_
   clear hs; rintro _ w hs
   refine WL.next ?_
   refine WC.seq ?_
   refine Qm ?_
   refine WL.p Q0 (Yl.loadAB agg112 Q0 hs Q1 Q0 Q0) ?_
   refine WL.p Q0 (Yl.loadAB agg112 Q0 hs Q1 Q0 Q0) ?_
   refine WL.callp hs Q0 (Yc.value Q0 Q0 hfn_eq Q0) (hf_eq _ (List.mem_of_getElem? (by assumption)) _ (List.mem_of_getElem? (by assumption)) _ hs.below) ?_
   clear hs; intro w hs
   refine WL.p Q0 (Yl.not Q0) ?_
   refine WL.next ?_
   refine WC.condS Q0 (fun h3 => ?_) (fun h3 => ?_)
   ·
    replace h3 := not_eq_true h3
    refine WC.seq ?_
    refine Qa ?_
    refine WL.next ?_
    refine WC.ret ?_
    refine At.blockret ?_
    refine At.thenret ?_
    refine At.thenret ?_
    refine At.blockret ?_
    refine At.thenret ?_
    refine fin1' rfl Q0 ?_
    refine RetP.mk hs ?_
    rw [hJ]; simp_all [eqWith]
   ·
    replace h3 := not_eq_false h3
    refine WC.skip ?_
    refine At.blocknormal ?_
    refine At.then_ ?_
    refine WC.region ?_
    refine WL.p Q0 (Yl.add Q0 Q0 Q7) ?_
    refine Qm ?_
    refine WL.nil ?_
    refine At.roundC (k + 1) (hs.only Q2) ⟨by rfl, by rfl, by rfl, by rfl, by rfl, by rfl, trivial⟩ ⟨by rfl, trivial⟩ ?_ ?_
    ·
     omega
    ·
     rw [hJ]; simp_all [eqWith]
  ·
   replace h2 := of_decide_eq_false h2
   rw [drop_out (l := s1.l) Q7, drop_out (l := s2.l) Q7] at hJ
   refine WC.exit ?_
   refine At.thenexit ?_
   refine At.thenexit ?_
   refine At.blockexit ?_
   refine At.then_ ?_
   refine WC.seq ?_
   refine Qa ?_
   refine WL.next ?_
   refine WC.ret ?_
   refine fin1' rfl Q0 ?_
   refine RetP.mk hs ?_
   rw [hJ]; simp_all [eqWith]

theorem c_slices_Equal___impl_File_impl_File_ (s1 : (Sl TFile)) (s2 : (Sl TFile)) (w : World) (h_s1 : Ph.ok w s1) (h_s2 : Ph.ok w s2)  : Calls Tryd.prog 96 [Sl.v s1, Sl.v s2].toArray w (RetP w (Bo (decide (s1.l = s2.l)))) := by
 have hw := h_s1.lt
 refine enterN 26 Tryd.func96 rfl rfl rfl ?_
 have hs := Sat.start w
 refine WC.seq ?_
 refine Qa ?_
 refine WL.next ?_
 refine WC.seq' ?_
 refine WC.seq ?_
 refine Qm ?_
 refine WL.p Q0 (Yl.len_sl slu110 Q0) ?_
 refine Qm ?_
 refine WL.p Q0 (Yl.len_sl slu110 Q0) ?_
 refine WL.p Q0 (Yl.nei Q0 Q0) ?_
 refine WL.next ?_
 refine WC.condS Q0 (fun h1 => ?_) (fun h1 => ?_)
 ·
  replace h1 := not_eq_true h1
  replace h1 := of_decide_eq_false h1
  refine WC.seq ?_
  refine Qa ?_
  refine WL.next ?_
  refine WC.ret ?_
  refine At.thenret ?_
  refine fin1' rfl Q0 ?_
  refine RetP.mk hs ?_
  have hne : ¬ s1.l = s2.l := by
   intro h
   have h2 := congrArg List.length h
   try simp at h2
   omega
  simp only [hne, decide_false]
 ·
  replace h1 := not_eq_false h1
  replace h1 := of_decide_eq_true h1
  refine WC.skipn ?_
  refine WC.seq' ?_
  refine WC.seq ?_
  refine Qm ?_
  refine WL.p Q0 (Yl.len_sl slu110 Q0) ?_
  refine Qm ?_
  refine WL.next ?_
  refine WC.block ?_
  refine WC.loopC (ι := Nat) (fun k => s1.l.length - k) (fun k => [(13, I (k : Int))]) (fun _ => []) (fun k => decide (s1.l = s2.l) = decide (s1.l.drop k = s2.l.drop k)) [(0, _), (1, _), (10, _), (12, _)] 0 (hs) ⟨by rfl, by rfl, by rfl, by rfl, trivial⟩ ⟨by rfl, trivial⟩ ?_ ?_
  ·
   simp
  clear hs; rintro k w hJ hs
  simp only [List.nil_append] at hs
  refine WC.seq ?_
  refine WL.p Q0 (Yl.lss Q0 Q0) ?_
  refine WL.next ?_
  refine WC.seq' ?_
  refine WC.condS Q0 (fun h2 => ?_) (fun h2 => ?_)
  ·
   replace h2 := of_decide_eq_true h2
   obtain ⟨d, hd⟩ := exists_get (l := s1.l) (k := k) Q7
   obtain ⟨d2, hd2⟩ := exists_get (l := s2.l) (k := k) Q7
   rw [drop_cons hd, drop_cons hd2] at hJ
   refine WC.skipn ?_
   refine WC.seq' ?_
   refine WC.block ?_
   refine WC.seq ?_
   refine Qm ?_
   refine Qa ?_
   refine WL.next ?_
   refine WC.quietn mixed Q6 hs ?_
   refine WQ.p Q0 (fun w hs => Yl.move Q0) ?_
   refine WQ.p Q0 (fun w hs => Yl.move Q0) ?_
   refine WQ.p Q0 (fun w hs => Yl.indexAddr slt110 Q0 Q0 (Ph.old h_s1 hs) Q0 (hd)) ?_
   refine WQ.p Q0 (fun w hs => Yl.loadA agg115 Q0 (Sl.Ok.at_ (Ph.old h_s1 hs) (by assumption)).2 Q0) ?_
   refine WQ.p Q0 (fun w hs => Yl.move Q0) ?_
   refine WQ.p Q0 (fun w hs => Yl.move Q0) ?_
   refine WQ.p Q0 (fun w hs => Yl.indexAddr slt110 Q0 Q0 (Ph.old h_s2 hs) Q0 (hd2)) ?_
   refine WQ.p Q0 (fun w hs => Yl.loadA agg115 Q0 (Sl.Ok.at_ (Ph.old h_s2 hs) (by assumption)).2 Q0) ?_
   refine WQ.p Q0 (fun w hs => Yl.net eqt115 Q0 Q0) ?_
   refine WQ.next ?_
   clear hs; intro w hs
   refine WC.condS Q0 (fun h3 => ?_) (fun h3 => ?_)
   ·
    replace h3 := not_eq_true h3
    replace h3 := of_decide_eq_false h3
    refine WC.seq ?_
    refine Qa ?_
    refine WL.next ?_
    refine WC.ret ?_
    refine At.blockret ?_
    refine At.thenret ?_
    refine At.thenret ?_
    refine At.blockret ?_
    refine At.thenret ?_
    refine fin1' rfl Q0 ?_
    refine RetP.mk hs ?_
    rw [hJ]; simp_all
   ·
    replace h3 := not_eq_false h3
    replace h3 := of_decide_eq_true h3
    refine WC.skip ?_
    refine At.blocknormal ?_
    refine At.then_ ?_
    refine WC.region ?_
    refine WL.p Q0 (Yl.add Q0 Q0 Q7) ?_
    refine Qm ?_
    refine WL.nil ?_
    refine At.roundC (k + 1) (hs.only Q2) ⟨by rfl, by rfl, by rfl, by rfl, trivial⟩ ⟨by rfl, trivial⟩ ?_ ?_
    ·
     omega
    ·
     rw [hJ]; simp_all
  ·
   replace h2 := of_decide_eq_false h2
   rw [drop_out (l := s1.l) Q7, drop_out (l := s2.l) Q7] at hJ
   refine WC.exit ?_
   refine At.thenexit ?_
   refine At.thenexit ?_
   refine At.blockexit ?_
   refine At.then_ ?_
   refine WC.seq ?_
   refine Qa ?_
   refine WL.next ?_
   refine WC.ret ?_
   refine fin1' rfl Q0 ?_
   refine RetP.mk hs ?_
   rw [hJ]; simp_all

theorem c_impl_EqualServers_1 (x : PServer) (y : PServer) (w : World) (h_x : Ph.ok w x) (h_y : Ph.ok w y)  : Calls Tryd.prog 95 [.agg #[S x.host, Sl.v x.files], .agg #[S y.host, Sl.v y.files]].toArray w (RetP w (Bo (decide (x.lg = y.lg)))) := by
 refine enterN 17 Tryd.func95 rfl rfl rfl ?_
 have hs := Sat.start w
 refine WC.seq ?_
 refine WL.r Q0 (Yr.box hs Q0 Q0) ?_
 clear hs; rintro _ w ⟨b1, rfl, hb, hs⟩; clear hb
 refine WL.r Q0 (Yr.box hs Q0 Q0) ?_
 clear hs; rintro _ w ⟨b2, rfl, hb, hs⟩; clear hb
 refine Qa ?_
 refine WL.next ?_
 refine WC.seq ?_
 refine WL.p Q0 (Yl.fieldAddr fa112_0 Q0) ?_
 refine WL.p Q0 (Yl.loadB sca9 Q0 hs Q1 Q0) ?_
 refine WL.p Q0 (Yl.fieldAddr fa112_0 Q0) ?_
 refine WL.p Q0 (Yl.loadB sca9 Q0 hs Q1 Q0) ?_
 refine WL.p Q0 (Yl.eqs Q0 Q0) ?_
 refine Qm ?_
 refine WL.split (d := 10) Q0 (fun h1 => ?_) (fun h1 => ?_)
 ·
  replace h1 := of_decide_eq_true h1
  refine WL.run (d := 10) Q0 Q0 ?_
  refine WL.p Q0 (Yl.fieldAddr fa112_1 Q0) ?_
  refine WL.run (d := 10) Q0 Q0 ?_
  refine WL.p Q0 (Yl.loadB sca110 Q0 hs Q1 Q0) ?_
  refine WL.run (d := 10) Q0 Q0 ?_
  refine WL.p Q0 (Yl.fieldAddr fa112_1 Q0) ?_
  refine WL.run (d := 10) Q0 Q0 ?_
  refine WL.p Q0 (Yl.loadB sca110 Q0 hs Q1 Q0) ?_
  refine WL.run (d := 10) Q0 Q0 ?_
  refine WL.callp hs Q0 (Yc.func Q0 fn96) (c_slices_Equal___impl_File_impl_File_ _ _ _ (Ph.old h_x.files hs) (Ph.old h_y.files hs)) ?_
  clear hs; intro w hs
  refine WL.p Q0 (Yl.pickT Q0 Q0) ?_
  refine Qa ?_
  refine WL.next ?_
  refine WC.ret ?_
  refine fin1' rfl Q0 ?_
  refine RetP.mk hs ?_
  simp_all [TServer.ext_iff]
 ·
  replace h1 := of_decide_eq_false h1
  refine WL.skip (d := 10) Q0 Q0 Q0 Q0 ?_
  refine WL.skip (d := 10) Q0 Q0 Q0 Q0 ?_
  refine WL.skip (d := 10) Q0 Q0 Q0 Q0 ?_
  refine WL.skip (d := 10) Q0 Q0 Q0 Q0 ?_
  refine WL.skip (d := 10) Q0 Q0 Q0 Q0 ?_
  refine WL.p Q0 (Yl.pickF Q0 Q0) ?_
  refine Qa ?_
  refine WL.next ?_
  refine WC.ret ?_
  refine fin1' rfl Q0 ?_
  refine RetP.mk hs ?_
  simp_all [TServer.ext_iff]

theorem c_impl_EqualServers (a : (Sl PServer)) (b : (Sl PServer)) (w : World) (h_a : Ph.ok w a) (h_b : Ph.ok w b)  : Calls Tryd.prog 32 [Sl.v a, Sl.v b].toArray w (RetP w (Bo (decide (a.l.map PServer.lg = b.l.map PServer.lg)))) := by
 refine enterN 8 Tryd.func32 rfl rfl rfl ?_
 have hs := Sat.start w
 refine WC.seq ?_
 refine Qa ?_
 refine WL.next ?_
 refine WC.seq ?_
 refine Qm ?_
 refine Qm ?_
 refine WL.callp hs Q0 (Yc.func Q0 fn94) (c_slices_EqualFunc___impl_Server___impl_Server_impl_Server_impl_Server_ _ _ 95 _ (fun x y => decide (x.lg = y.lg)) _ (Ph.old h_a hs) (Ph.old h_b hs) fn95 (fun x hx y hy w1 hb1 => c_impl_EqualServers_1 x y w1 (Ph.ext hb1 ((Ph.old h_a hs).elems x hx)) (Ph.ext hb1 ((Ph.old h_b hs).elems y hy)))) ?_
 clear hs; intro w hs
 refine Qa ?_
 refine WL.next ?_
 refine WC.ret ?_
 refine fin1' rfl Q0 ?_
 refine RetP.mk hs ?_
 rw [eqWith_map]

theorem c_impl_NotFound  (w : World)   : Calls Tryd.prog 48 [].toArray w (RetP w (.agg (Ph.enc notFound).toArray)) := by
 refine enterN 2 Tryd.func48 rfl rfl rfl ?_
 have hs := Sat.start w
 refine WC.seq ?_
 refine WL.r Q0 (Yr.alloc hs zt45) ?_
 clear hs; rintro _ w ⟨b1, rfl, hb, hs⟩; clear hb
 refine WL.next ?_
 refine WC.seq ?_
 refine WL.p Q0 (Yl.build bt45 Q0 Q4) ?_
 refine WL.s (Yr.storeB hs Q0 Q0 Q0 Q5 Q3 Q0 (by exact szf45)) ?_
 clear hs; rintro _ w hs
 refine WL.next ?_
 refine WC.ret ?_
 refine fin1c rfl agg45 Q0 hs Q1 Q0 ?_
 refine RetP.mk hs ?_
 rfl

theorem c_impl_AnswerTo (l : (Sl PServer)) (a : TAddr) (w : World) (h_l : Ph.ok w l) (h_a : Ph.ok w a)  : Calls Tryd.prog 33 [Sl.v l, .agg #[S a.host, S a.path]].toArray w (RetP w (.agg (Ph.enc (answerTo (l.l.map PServer.lg) a)).toArray)) := by
 have hw := h_l.lt
 refine enterN 33 Tryd.func33 rfl rfl rfl ?_
 have hs := Sat.start w
 refine WC.seq ?_
 refine WL.r Q0 (Yr.box hs Q0 Q0) ?_
 clear hs; rintro _ w ⟨b1, rfl, hb, hs⟩; clear hb
 refine WL.r Q0 (Yr.alloc hs zt45) ?_
 clear hs; rintro _ w ⟨b2, rfl, hb, hs⟩; clear hb
 refine WL.next ?_
 refine WC.seq ?_
 refine Qm ?_
 refine WL.p Q0 (Yl.fieldAddr fa43_0 Q0) ?_
 refine WL.p Q0 (Yl.loadB sca9 Q0 hs Q1 Q0) ?_
 refine WL.callp hs Q0 (Yc.func Q0 fn87) (c_impl_serverAt _ _ _ (Ph.old h_l hs)) ?_
 clear hs; intro w hs
 refine Qa ?_
 refine WL.next ?_
 refine WC.seq' ?_
 refine WC.seq ?_
 refine Qm ?_
 refine WL.p Q0 (Yl.lss Q0 Q0) ?_
 refine WL.next ?_
 refine WC.condS Q0 (fun h1 => ?_) (fun h1 => ?_)
 ·
  replace h1 := of_decide_eq_true h1
  refine WC.seq ?_
  refine WL.callp hs Q0 (Yc.func Q0 fn48) (c_impl_NotFound _) ?_
  clear hs; intro w hs
  refine WL.s (Yr.storeB hs Q0 Q0 Q0 Q5 Q3 Q0 (by exact szf45)) ?_
  clear hs; rintro _ w hs
  refine WL.next ?_
  refine WC.ret ?_
  refine At.thenret ?_
  refine fin1c rfl agg45 Q0 hs Q1 Q0 ?_
  refine RetP.mk hs ?_
  have e : answerTo (l.l.map PServer.lg) a = notFound := by simp only [answerTo, find_map, idxF_none h1]; rfl
  rw [e]; rfl
 ·
  replace h1 := of_decide_eq_false h1
  obtain ⟨j, d, hj, hd, hf⟩ := idxF_some h1
  rw [Nat.zero_add] at hj
  refine WC.skipn ?_
  refine WC.quietn mixed Q6 hs ?_
  refine WQ.p Q0 (fun w hs => Yl.move Q0) ?_
  refine WQ.p Q0 (fun w hs => Yl.move Q0) ?_
  refine WQ.p Q0 (fun w hs => Yl.indexAddr slt56 Q0 Q0 (Ph.old h_l hs) (by first | exact hj | exact hj2) (hd)) ?_
  refine WQ.p Q0 (fun w hs => Yl.loadA agg112 Q0 (Sl.Ok.at_ (Ph.old h_l hs) (by assumption)).2 Q0) ?_
  refine WQ.p Q0 (fun w hs => Yl.fieldAddr fa43_1 Q0) ?_
  refine WQ.p Q0 (fun w hs => Yl.loadB sca9 Q0 hs Q1 Q0) ?_
  refine WQ.callp Q0 (fun w => Yc.func Q0 fn88) (fun w hs => (c_impl_fileAt _ _ _ (Ph.old (Sl.Ok.elem h_l hd) hs))) (fun _ _ hs hb => hs.ext hb) ?_
  refine WQ.p Q0 (fun w hs => Yl.assign Q0) ?_
  refine WQ.next ?_
  clear hs; intro w hs
  refine WC.seq' ?_
  refine WC.seq ?_
  refine Qm ?_
  refine WL.p Q0 (Yl.lss Q0 Q0) ?_
  refine WL.next ?_
  refine WC.condS Q0 (fun h2 => ?_) (fun h2 => ?_)
  ·
   replace h2 := of_decide_eq_true h2
   refine WC.seq ?_
   refine WL.callp hs Q0 (Yc.func Q0 fn48) (c_impl_NotFound _) ?_
   clear hs; intro w hs
   refine WL.s (Yr.storeB hs Q0 Q0 Q0 Q5 Q3 Q0 (by exact szf45)) ?_
   clear hs; rintro _ w hs
   refine WL.next ?_
   refine WC.ret ?_
   refine At.thenret ?_
   refine fin1c rfl agg45 Q0 hs Q1 Q0 ?_
   refine RetP.mk hs ?_
   have e : answerTo (l.l.map PServer.lg) a = notFound := by simp only [answerTo, find_map, hf, Option.map_some, TServer.fileOf, idxF_none h2]
   rw [e]; rfl
  ·
   replace h2 := of_decide_eq_false h2
   obtain ⟨j2, d2, hj2, hd2, hf2⟩ := idxF_some h2
   rw [Nat.zero_add] at hj2
   refine WC.skipn ?_
   refine WC.seq ?_
   refine Qm ?_
   refine Qm ?_
   refine WL.p Q0 (Yl.indexAddr slt56 Q0 Q0 (Ph.old h_l hs) (by first | exact hj | exact hj2) (hd)) ?_
   refine WL.p Q0 (Yl.fieldAddr fa112_1 Q0) ?_
   refine WL.p Q0 (Yl.loadC sca110 Q0 (Sl.Ok.at_ (Ph.old h_l hs) (by assumption)).2 Q0) ?_
   refine Qm ?_
   refine WL.p Q0 (Yl.indexAddr slt110 Q0 Q0 (Ph.old (Sl.Ok.elem h_l hd).files hs) (by first | exact hj | exact hj2) (hd2)) ?_
   refine WL.p Q0 (Yl.fieldAddr fa115_1 Q0) ?_
   refine WL.p Q0 (Yl.loadAC agg45 Q0 (Sl.Ok.at_ (Ph.old (Sl.Ok.elem h_l hd).files hs) (by assumption)).2 Q0 Q0) ?_
   refine WL.s (Yr.storeB hs Q0 Q0 Q0 Q5 Q3 Q0 (by exact szf45)) ?_
   clear hs; rintro _ w hs
   refine WL.next ?_
   refine WC.ret ?_
   refine fin1c rfl agg45 Q0 hs Q1 Q0 ?_
   refine RetP.mk hs ?_
   have e : answerTo (l.l.map PServer.lg) a = d2.response := by simp only [answerTo, find_map, hf, Option.map_some, TServer.fileOf, hf2]
   rw [e]; rfl

theorem c_impl_AreServers (l : (Sl PServer)) (w : World) (h_l : Ph.ok w l) (hb : lsz TServer.size (l.l.map PServer.lg) ≤ 1048576) (hm_ : ∃ m, w.cell? ⟨0, 0, none⟩ = some (.int .i64 m)) : Calls Tryd.prog 34 [Sl.v l].toArray w (RetP w (Bo (serversOk (l.l.map PServer.lg)))) := by
 have hw := h_l.lt
 rw [serversOk_map]
 refine enterN 27 Tryd.func34 rfl rfl rfl ?_
 have hs := Sat.start w
 refine WC.seq ?_
 refine Qa ?_
 refine WL.next ?_
 refine WC.seq' ?_
 refine WC.seq ?_
 refine Qm ?_
 refine WL.p Q0 (Yl.len_sl slu56 Q0) ?_
 refine Qm ?_
 refine WL.next ?_
 refine WC.block ?_
 refine WC.loopC (ι := Nat) (fun k => l.l.length - k) (fun k => [(7, I (k : Int))]) (fun _ => []) (fun k => uniqF (fun d : PServer => serverOk d.lg) (fun d d2 : PServer => decide (d2.host = d.host)) [] l.l = uniqF (fun d : PServer => serverOk d.lg) (fun d d2 : PServer => decide (d2.host = d.host)) (l.l.take k) (l.l.drop k)) [(0, _), (5, _), (6, _)] 0 (hs) ⟨by rfl, by rfl, by rfl, trivial⟩ ⟨by rfl, trivial⟩ ?_ ?_
 ·
  simp
 clear hs; rintro k w hJ hs
 simp only [List.nil_append] at hs
 refine WC.seq ?_
 refine WL.p Q0 (Yl.lss Q0 Q0) ?_
 refine WL.next ?_
 refine WC.seq' ?_
 refine WC.condS Q0 (fun h1 => ?_) (fun h1 => ?_)
 ·
  replace h1 := of_decide_eq_true h1
  obtain ⟨d, hd⟩ := exists_get (l := l.l) (k := k) Q7
  rw [uniq_step hd] at hJ
  have hdl := lsum_le (f := fun d : PServer => d.lg.size) (List.mem_of_getElem? hd)
  have hpd : d.lg.size ≤ 1048576 := by rw [lsz_map] at hb; simp only [lsz] at hb; omega
  have hix := idx_first0 (p := fun s : PServer => decide (s.host = d.host)) hd (by simp)
  replace hix : _ ↔ (l.l.take k).any ((fun d d2 : PServer => decide (d2.host = d.host)) d) = false := hix
  generalize (l.l.take k).any ((fun d d2 : PServer => decide (d2.host = d.host)) d) = u at hJ hix
  refine WC.skipn ?_
  refine WC.seq' ?_
  refine WC.block ?_
  refine WC.seq ?_
  refine Qm ?_
  refine WL.p Q0 (Yl.indexAddr slt56 Q0 Q0 (Ph.old h_l hs) Q0 (hd)) ?_
  refine WL.p Q0 (Yl.loadA agg112 Q0 (Sl.Ok.at_ (Ph.old h_l hs) (by assumption)).2 Q0) ?_
  refine WL.r Q0 (Yr.alloc hs zt112) ?_
  clear hs; rintro _ w ⟨b1, rfl, hb, hs⟩; clear hb
  refine Qa ?_
  refine WL.s (Yr.storeB hs Q0 Q0 Q0 Q5 Q3 Q0 (by exact szf112)) ?_
  clear hs; rintro _ w hs
  refine WL.next ?_
  refine WC.seq ?_
  refine WL.p Q0 (Yl.loadAB agg112 Q0 hs Q1 Q0 Q0) ?_
  refine WL.callp hs Q0 (Yc.func Q0 fn89) (c_impl_IsServer _ _ (Ph.old (Sl.Ok.elem h_l hd) hs) (by show ∀ f ∈ (PServer.lg _).files, _; exact srv_pol hpd) (by first | assumption | exact Sat.cellm hs (by assumption))) ?_
  clear hs; intro w hs
  refine WL.p Q0 (Yl.not Q0) ?_
  refine Qm ?_
  refine WL.split (d := 15) Q0 (fun h2 => ?_) (fun h2 => ?_)
  ·
   replace h2 := not_eq_true h2
   refine WL.skip (d := 15) Q0 Q0 Q0 Q0 ?_
   refine WL.skip (d := 15) Q0 Q0 Q0 Q0 ?_
   refine WL.skip (d := 15) Q0 Q0 Q0 Q0 ?_
   refine WL.skip (d := 15) Q0 Q0 Q0 Q0 ?_
   refine WL.skip (d := 15) Q0 Q0 Q0 Q0 ?_
   refine WL.skip (d := 15) Q0 Q0 Q0 Q0 ?_
   refine WL.p Q0 (Yl.pickT Q0 Q0) ?_
   refine WL.next ?_
   refine WC.condT Q0 ?_
   refine WC.seq ?_
   refine Qa ?_
   refine WL.next ?_
   refine WC.ret ?_
   refine At.blockret ?_
   refine At.thenret ?_
   refine At.thenret ?_
   refine At.blockret ?_
   refine At.thenret ?_
   refine fin1' rfl Q0 ?_
   refine RetP.mk hs ?_
   simp_all
   try omega
  ·
   replace h2 := not_eq_false h2
   refine WL.run (d := 15) Q0 Q0 ?_
   refine Qm ?_
   refine WL.run (d := 15) Q0 Q0 ?_
   refine WL.p Q0 (Yl.fieldAddr fa112_0 Q0) ?_
   refine WL.run (d := 15) Q0 Q0 ?_
   refine WL.p Q0 (Yl.loadB sca9 Q0 hs Q1 Q0) ?_
   refine WL.run (d := 15) Q0 Q0 ?_
   refine WL.callp hs Q0 (Yc.func Q0 fn87) (c_impl_serverAt _ _ _ (Ph.old h_l hs)) ?_
   clear hs; intro w hs
   refine WL.run (d := 15) Q0 Q0 ?_
   refine Qm ?_
   refine WL.run (d := 15) Q0 Q0 ?_
   refine WL.p Q0 (Yl.nei Q0 Q0) ?_
   refine WL.p Q0 (Yl.pickF Q0 Q0) ?_
   refine WL.next ?_
   refine WC.condS Q0 (fun h3 => ?_) (fun h3 => ?_)
   ·
    replace h3 := not_eq_true h3
    replace h3 := of_decide_eq_false h3
    refine WC.seq ?_
    refine Qa ?_
    refine WL.next ?_
    refine WC.ret ?_
    refine At.blockret ?_
    refine At.thenret ?_
    refine At.thenret ?_
    refine At.blockret ?_
    refine At.thenret ?_
    refine fin1' rfl Q0 ?_
    refine RetP.mk hs ?_
    simp_all
    try omega
   ·
    replace h3 := not_eq_false h3
    replace h3 := of_decide_eq_true h3
    refine WC.skip ?_
    refine At.blocknormal ?_
    refine At.then_ ?_
    refine WC.region ?_
    refine WL.p Q0 (Yl.add Q0 Q0 Q7) ?_
    refine Qm ?_
    refine WL.nil ?_
    refine At.roundC (k + 1) (hs.only Q2) ⟨by rfl, by rfl, by rfl, trivial⟩ ⟨by rfl, trivial⟩ ?_ ?_
    ·
     omega
    ·
     rw [hJ]; simp_all
 ·
  replace h1 := of_decide_eq_false h1
  rw [uniq_end (l := l.l) Q7] at hJ
  refine WC.exit ?_
  refine At.thenexit ?_
  refine At.thenexit ?_
  refine At.blockexit ?_
  refine At.then_ ?_
  refine WC.seq ?_
  refine Qm ?_
  refine WL.p Q0 (Yl.len_sl slu56 Q0) ?_
  refine WL.p Q0 (Yl.leq Q0 Q0) ?_
  refine Qa ?_
  refine WL.next ?_
  refine WC.ret ?_
  refine fin1' rfl Q0 ?_
  refine RetP.mk hs ?_
  simp_all
  try omega

theorem c_spec_AreServers (l : (Sl PServer)) (w : World) (h_l : Ph.ok w l) (hb : lsz TServer.size (l.l.map PServer.lg) ≤ 1048576) : Calls Tryd.prog 35 [Sl.v l].toArray w (RetP w (Bo (serversOk (l.l.map PServer.lg)))) := by
 have hw := h_l.lt
 rw [serversOk_map]
 refine enterN 30 Tryd.func35 rfl rfl rfl ?_
 have hs := Sat.start w
 refine WC.seq ?_
 refine Qa ?_
 refine WL.next ?_
 refine WC.seq' ?_
 refine WC.seq ?_
 refine Qa ?_
 refine WL.next ?_
 refine WC.block ?_
 refine WC.loopC (ι := Nat) (fun k => l.l.length - k) (fun k => [(3, I (k : Int))]) (fun _ => []) (fun k => uniqF (fun d : PServer => serverOk d.lg) (fun d d2 : PServer => decide (d2.host = d.host)) [] l.l = uniqF (fun d : PServer => serverOk d.lg) (fun d d2 : PServer => decide (d2.host = d.host)) (l.l.take k) (l.l.drop k)) [(0, _)] 0 (hs) ⟨by rfl, trivial⟩ ⟨by rfl, trivial⟩ ?_ ?_
 ·
  simp
 clear hs; rintro k w hJ hs
 simp only [List.nil_append] at hs
 refine WC.seq' ?_
 refine WC.seq ?_
 refine Qm ?_
 refine Qm ?_
 refine WL.p Q0 (Yl.len_sl slu56 Q0) ?_
 refine WL.p Q0 (Yl.lss Q0 Q0) ?_
 refine WL.next ?_
 refine WC.condS Q0 (fun h1 => ?_) (fun h1 => ?_)
 ·
  replace h1 := of_decide_eq_true h1
  obtain ⟨d, hd⟩ := exists_get (l := l.l) (k := k) Q7
  rw [uniq_step hd] at hJ
  have hdl := lsum_le (f := fun d : PServer => d.lg.size) (List.mem_of_getElem? hd)
  have hpd : d.lg.size ≤ 1048576 := by rw [lsz_map] at hb; simp only [lsz] at hb; omega
  have hix := idx_first0 (p := fun s : PServer => decide (s.host = d.host)) hd (by simp)
  replace hix : _ ↔ (l.l.take k).any ((fun d d2 : PServer => decide (d2.host = d.host)) d) = false := hix
  generalize (l.l.take k).any ((fun d d2 : PServer => decide (d2.host = d.host)) d) = u at hJ hix
  refine WC.skipn ?_
  refine WC.seq' ?_
  refine WC.block ?_
  refine WC.seq ?_
  refine Qm ?_
  refine Qm ?_
  refine WL.p Q0 (Yl.indexAddr slt56 Q0 Q0 (Ph.old h_l hs) Q0 (hd)) ?_
  refine WL.p Q0 (Yl.loadA agg112 Q0 (Sl.Ok.at_ (Ph.old h_l hs) (by assumption)).2 Q0) ?_
  refine WL.callp hs Q0 (Yc.func Q0 fn93) (c_spec_IsServer _ _ (Ph.old (Sl.Ok.elem h_l hd) hs) (by show ∀ f ∈ (PServer.lg _).files, _; exact srv_pol hpd)) ?_
  clear hs; intro w hs
  refine WL.p Q0 (Yl.not Q0) ?_
  refine Qm ?_
  refine WL.split (d := 16) Q0 (fun h2 => ?_) (fun h2 => ?_)
  ·
   replace h2 := not_eq_true h2
   refine WL.skip (d := 16) Q0 Q0 Q0 Q0 ?_
   refine WL.skip (d := 16) Q0 Q0 Q0 Q0 ?_
   refine WL.skip (d := 16) Q0 Q0 Q0 Q0 ?_
   refine WL.skip (d := 16) Q0 Q0 Q0 Q0 ?_
   refine WL.skip (d := 16) Q0 Q0 Q0 Q0 ?_
   refine WL.skip (d := 16) Q0 Q0 Q0 Q0 ?_
   refine WL.skip (d := 16) Q0 Q0 Q0 Q0 ?_
   refine WL.skip (d := 16) Q0 Q0 Q0 Q0 ?_
   refine WL.skip (d := 16) Q0 Q0 Q0 Q0 ?_
   refine WL.p Q0 (Yl.pickT Q0 Q0) ?_
   refine WL.next ?_
   refine WC.condT Q0 ?_
   refine WC.seq ?_
   refine Qa ?_
   refine WL.next ?_
   refine WC.ret ?_
   refine At.blockret ?_
   refine At.thenret ?_
   refine At.thenret ?_
   refine At.blockret ?_
   refine At.thenret ?_
   refine fin1' rfl Q0 ?_
   refine RetP.mk hs ?_
   simp_all
   try omega
  ·
   replace h2 := not_eq_false h2
   refine WL.run (d := 16) Q0 Q0 ?_
   refine Qm ?_
   refine WL.run (d := 16) Q0 Q0 ?_
   refine Qm ?_
   refine WL.run (d := 16) Q0 Q0 ?_
   refine Qm ?_
   refine WL.run (d := 16) Q0 Q0 ?_
   refine WL.p Q0 (Yl.indexAddr slt56 Q0 Q0 (Ph.old h_l hs) Q0 (hd)) ?_
   refine WL.run (d := 16) Q0 Q0 ?_
   refine WL.p Q0 (Yl.fieldAddr fa112_0 Q0) ?_
   refine WL.run (d := 16) Q0 Q0 ?_
   refine WL.p Q0 (Yl.loadC sca9 Q0 (Sl.Ok.at_ (Ph.old h_l hs) (by assumption)).2 Q0) ?_
   refine WL.run (d := 16) Q0 Q0 ?_
   refine WL.callp hs Q0 (Yc.func Q0 fn91) (c_spec_l12Server _ _ _ (Ph.old h_l hs)) ?_
   clear hs; intro w hs
   refine WL.run (d := 16) Q0 Q0 ?_
   refine Qm ?_
   refine WL.run (d := 16) Q0 Q0 ?_
   refine WL.p Q0 (Yl.nei Q0 Q0) ?_
   refine WL.p Q0 (Yl.pickF Q0 Q0) ?_
   refine WL.next ?_
   refine WC.condS Q0 (fun h3 => ?_) (fun h3 => ?_)
   ·
    replace h3 := not_eq_true h3
    replace h3 := of_decide_eq_false h3
    refine WC.seq ?_
    refine Qa ?_
    refine WL.next ?_
    refine WC.ret ?_
    refine At.blockret ?_
    refine At.thenret ?_
    refine At.thenret ?_
    refine At.blockret ?_
    refine At.thenret ?_
    refine fin1' rfl Q0 ?_
    refine RetP.mk hs ?_
    simp_all
    try omega
   ·
    replace h3 := not_eq_false h3
    replace h3 := of_decide_eq_true h3
    refine WC.skip ?_
    refine At.blocknormal ?_
    refine At.then_ ?_
    refine WC.region ?_
    refine Qm ?_
    refine WL.p Q0 (Yl.add Q0 Q0 Q7) ?_
    refine Qa ?_
    refine WL.nil ?_
    refine At.roundC (k + 1) (hs.only Q2) ⟨by rfl, trivial⟩ ⟨by rfl, trivial⟩ ?_ ?_
    ·
     omega
    ·
     rw [hJ]; simp_all
 ·
  replace h1 := of_decide_eq_false h1
  rw [uniq_end (l := l.l) Q7] at hJ
  refine WC.exit ?_
  refine At.thenexit ?_
  refine At.thenexit ?_
  refine At.blockexit ?_
  refine At.then_ ?_
  refine WC.seq ?_
  refine Qm ?_
  refine WL.p Q0 (Yl.len_sl slu56 Q0) ?_
  refine WL.p Q0 (Yl.leq Q0 Q0) ?_
  refine Qa ?_
  refine WL.next ?_
  refine WC.ret ?_
  refine fin1' rfl Q0 ?_
  refine RetP.mk hs ?_
  simp_all
  try omega

theorem c_laws_FnServers (code : (Sl UInt8)) (w : World) (h_code : Ph.ok w code) (hm_ : ∃ m, w.cell? ⟨0, 0, none⟩ = some (.int .i64 m)) : Calls Tryd.prog 5 [Sl.v code].toArray w (RetP w (Bo true)) := by
 refine enterN 99 Tryd.func5 rfl rfl rfl ?_
 have hs := Sat.start w
 refine WC.seq ?_
 refine Qa ?_
 refine WL.next ?_
 refine WC.seq' ?_
 refine WC.seq ?_
 refine Qm ?_
 refine WL.callp hs Q0 (Yc.func Q0 fn7) (c_laws_big _ _ (Ph.old h_code hs)) ?_
 clear hs; intro w hs
 refine WL.next ?_
 refine WC.condS Q0 (fun h1 => ?_) (fun h1 => ?_)
 ·
  replace h1 := of_decide_eq_true h1
  refine WC.seq ?_
  refine Qa ?_
  refine WL.next ?_
  refine WC.ret ?_
  refine At.thenret ?_
  refine fin1' rfl Q0 ?_
  refine RetP.mk hs ?_
  first
   | rfl
   | (clear hs; simp_all [putFile_no, put_answer, put_answer_other, put_servers])
 ·
  replace h1 := of_decide_eq_false h1
  refine WC.skipn ?_
  refine WC.seq ?_
  refine Qm ?_
  refine WL.callx hs Q0 (Yc.func Q0 fn29) (c_spec_DrawPutFile _ _ (Ph.old h_code hs)) ?_
  clear hs; intro v w ho hR hs
  obtain ⟨x1_l, x1_a, x1_x, rfl, ⟨hokx1_a, hokx1_x⟩, hx1, hf1⟩ := hR
  obtain ⟨F1, hs⟩ := hs.addF ho hf1
  clear ho hf1
  refine Qm ?_
  refine WL.p Q0 (Yl.extract Q0 Q0) ?_
  refine WL.p Q0 (Yl.extract Q0 Q0) ?_
  refine WL.p Q0 (Yl.extract Q0 Q0) ?_
  refine WL.r Q0 (Yr.alloc hs zt43) ?_
  clear hs; rintro _ w ⟨b2, rfl, hb, hs⟩; clear hb
  refine WL.r Q0 (Yr.alloc hs zt45) ?_
  clear hs; rintro _ w ⟨b3, rfl, hb, hs⟩; clear hb
  refine Qa ?_
  refine WL.s (Yr.storeB hs Q0 Q0 Q0 Q5 Q3 Q0 (by exact szf43)) ?_
  clear hs; rintro _ w hs
  refine WL.s (Yr.storeB hs Q0 Q0 Q0 Q5 Q3 Q0 (by exact szf45)) ?_
  clear hs; rintro _ w hs
  refine WL.next ?_
  refine WC.seq ?_
  refine Qm ?_
  refine WL.p Q0 (Yl.loadAB agg43 Q0 hs Q1 Q0 Q0) ?_
  refine WL.p Q0 (Yl.loadAB agg45 Q0 hs Q1 Q0 Q0) ?_
  refine WL.call hs Q0 (Yc.func Q0 fn30) (c_impl_PutFile _ _ _ _ (hs.okow (x := x1_l) (F := F1) Q1) (Flat.any hokx1_a) (Flat.any hokx1_x) Q7 (by simp only [TResponse.size] at *; omega) (by first | assumption | exact Sat.cellm hs (by assumption))) ?_
  have hs0 := hs; clear hs; intro v w hb hR hs; clear hs
  obtain ⟨x4, rfl, hx4, hf4⟩ := hR
  obtain ⟨F4, hs⟩ := hf4.sat hs0 hb; clear hs0 hf4
  have hz4 := putFile_size_of hx4
  refine Qm ?_
  refine WL.p Q0 (Yl.extract Q0 Q0) ?_
  refine WL.p Q0 (Yl.extract Q0 Q0) ?_
  refine Qa ?_
  refine Qa ?_
  refine WL.next ?_
  refine WC.seq ?_
  refine Qm ?_
  refine WL.p Q0 (Yl.loadAB agg43 Q0 hs Q1 Q0 Q0) ?_
  refine WL.p Q0 (Yl.loadAB agg45 Q0 hs Q1 Q0 Q0) ?_
  refine WL.call hs Q0 (Yc.func Q0 fn31) (c_spec_PutFile _ _ _ _ (hs.okow (x := x1_l) (F := F1) Q1) (Flat.any hokx1_a) (Flat.any hokx1_x) Q7 (by simp only [TResponse.size] at *; omega)) ?_
  have hs0 := hs; clear hs; intro v w hb hR hs; clear hs
  obtain ⟨x5, rfl, hx5, hf5⟩ := hR
  obtain ⟨F5, hs⟩ := hf5.sat hs0 hb; clear hs0 hf5
  have hz5 := putFile_size_of hx5
  refine Qm ?_
  refine WL.p Q0 (Yl.extract Q0 Q0) ?_
  refine WL.p Q0 (Yl.extract Q0 Q0) ?_
  refine Qa ?_
  refine Qa ?_
  refine WL.next ?_
  refine WC.seq' ?_
  refine WC.quietnJ (fun b => [(65, Bo b)]) (fun b => b = false) [(0, _), (2, _), (3, _), (4, _), (5, _), (6, _), (7, _), (9, _), (14, _)] mixed Q6 hs ⟨by rfl, by rfl, by rfl, by rfl, by rfl, by rfl, by rfl, by rfl, by rfl, trivial⟩ ?_ ?_
  ·
   clear hs; intro Qa join
   refine WQ.p Q0 (fun w hs => Yl.move Q0) ?_
   refine WQ.p Q0 (fun w hs => Yl.move Q0) ?_
   refine WQ.p Q0 (fun w hs => Yl.neb bool4 Q0 Q0) ?_
   refine WQ.p Q0 (fun w hs => Yl.move Q0) ?_
   refine WQ.split (d := 38) Q0 (fun h2 => ?_) (fun h2 => ?_)
   ·
    replace h2 := not_eq_true h2
    replace h2 := beq_false h2
    refine WQ.skip (d := 38) Q0 Q0 Q0 Q0 ?_
    refine WQ.skip (d := 38) Q0 Q0 Q0 Q0 ?_
    refine WQ.skip (d := 38) Q0 Q0 Q0 Q0 ?_
    refine WQ.skipU (d := 41) Q0 Q0 Q0 ?_
    refine WQ.skipU (d := 41) Q0 Q0 Q0 ?_
    refine WQ.skipU (d := 41) Q0 Q0 Q0 ?_
    refine WQ.skipU (d := 41) Q0 Q0 Q0 ?_
    refine WQ.skip (d := 38) Q0 Q0 Q0 Q0 ?_
    refine WQ.p Q0 (fun w hs => Yl.pickT Q0 Q0) ?_
    refine WQ.p Q0 (fun w hs => Yl.move Q0) ?_
    refine WQ.skip (d := 48) Q0 Q0 Q0 Q0 ?_
    refine WQ.skip (d := 48) Q0 Q0 Q0 Q0 ?_
    refine WQ.skipU (d := 50) Q0 Q0 Q0 ?_
    refine WQ.skipU (d := 50) Q0 Q0 Q0 ?_
    refine WQ.skipU (d := 50) Q0 Q0 Q0 ?_
    refine WQ.skipU (d := 50) Q0 Q0 Q0 ?_
    refine WQ.skipU (d := 50) Q0 Q0 Q0 ?_
    refine WQ.skipU (d := 50) Q0 Q0 Q0 ?_
    refine WQ.skip (d := 48) Q0 Q0 Q0 Q0 ?_
    refine WQ.p Q0 (fun w hs => Yl.pickT Q0 Q0) ?_
    refine WQ.p Q0 (fun w hs => Yl.move Q0) ?_
    refine WQ.skip (d := 59) Q0 Q0 Q0 Q0 ?_
    refine WQ.skip (d := 59) Q0 Q0 Q0 Q0 ?_
    refine WQ.skip (d := 59) Q0 Q0 Q0 Q0 ?_
    refine WQ.skip (d := 59) Q0 Q0 Q0 Q0 ?_
    refine WQ.skip (d := 59) Q0 Q0 Q0 Q0 ?_
    refine WQ.p Q0 (fun w hs => Yl.pickT Q0 Q0) ?_
    refine WQ.nil fun a ha => join _ _ ?_ ⟨by rfl, trivial⟩ ⟨by rfl, by rfl, by rfl, by rfl, by rfl, by rfl, by rfl, by rfl, by rfl, trivial⟩ a ha
    (try clear join); (try clear ha); (try clear hs)
    simp_all [putFile_no, put_answer, put_answer_other, put_servers]
   ·
    replace h2 := not_eq_false h2
    replace h2 := beq_true h2
    refine WQ.run (d := 38) Q0 Q0 ?_
    refine WQ.p Q0 (fun w hs => Yl.move Q0) ?_
    refine WQ.run (d := 38) Q0 Q0 ?_
    refine WQ.p Q0 (fun w hs => Yl.not Q0) ?_
    refine WQ.run (d := 38) Q0 Q0 ?_
    refine WQ.p Q0 (fun w hs => Yl.move Q0) ?_
    refine WQ.split (d := 41) Q0 (fun h3 => ?_) (fun h3 => ?_)
    ·
     replace h3 := not_eq_true h3
     refine WQ.run (d := 41) Q0 Q0 ?_
     refine WQ.p Q0 (fun w hs => Yl.move Q0) ?_
     refine WQ.run (d := 41) Q0 Q0 ?_
     refine WQ.p Q0 (fun w hs => Yl.move Q0) ?_
     refine WQ.run (d := 41) Q0 Q0 ?_
     refine WQ.callp Q0 (fun w => Yc.func Q0 fn32) (fun w hs => (c_impl_EqualServers _ _ _ (hs.okow (x := x4) (F := F4) Q1) (hs.okow (x := x1_l) (F := F1) Q1))) (fun _ _ hs hb => hs.ext hb) ?_
     refine WQ.run (d := 41) Q0 Q0 ?_
     refine WQ.p Q0 (fun w hs => Yl.not Q0) ?_
     refine WQ.run (d := 38) Q0 Q0 ?_
     refine WQ.p Q0 (fun w hs => Yl.pickT Q0 Q0) ?_
     refine WQ.p Q0 (fun w hs => Yl.pickF Q0 Q0) ?_
     refine WQ.p Q0 (fun w hs => Yl.move Q0) ?_
     refine WQ.split (d := 48) Q0 (fun h4 => ?_) (fun h4 => ?_)
     ·
      replace h4 := not_eq_true h4
      replace h4 := of_decide_eq_false h4
      refine WQ.skip (d := 48) Q0 Q0 Q0 Q0 ?_
      refine WQ.skip (d := 48) Q0 Q0 Q0 Q0 ?_
      refine WQ.skipU (d := 50) Q0 Q0 Q0 ?_
      refine WQ.skipU (d := 50) Q0 Q0 Q0 ?_
      refine WQ.skipU (d := 50) Q0 Q0 Q0 ?_
      refine WQ.skipU (d := 50) Q0 Q0 Q0 ?_
      refine WQ.skipU (d := 50) Q0 Q0 Q0 ?_
      refine WQ.skipU (d := 50) Q0 Q0 Q0 ?_
      refine WQ.skip (d := 48) Q0 Q0 Q0 Q0 ?_
      refine WQ.p Q0 (fun w hs => Yl.pickT Q0 Q0) ?_
      refine WQ.p Q0 (fun w hs => Yl.move Q0) ?_
      refine WQ.skip (d := 59) Q0 Q0 Q0 Q0 ?_
      refine WQ.skip (d := 59) Q0 Q0 Q0 Q0 ?_
      refine WQ.skip (d := 59) Q0 Q0 Q0 Q0 ?_
      refine WQ.skip (d := 59) Q0 Q0 Q0 Q0 ?_
      refine WQ.skip (d := 59) Q0 Q0 Q0 Q0 ?_
      refine WQ.p Q0 (fun w hs => Yl.pickT Q0 Q0) ?_
      refine WQ.nil fun a ha => join _ _ ?_ ⟨by rfl, trivial⟩ ⟨by rfl, by rfl, by rfl, by rfl, by rfl, by rfl, by rfl, by rfl, by rfl, trivial⟩ a ha
      (try clear join); (try clear ha); (try clear hs)
      simp_all [putFile_no, put_answer, put_answer_other, put_servers]
     ·
      replace h4 := not_eq_false h4
      replace h4 := of_decide_eq_true h4
      refine WQ.run (d := 48) Q0 Q0 ?_
      refine WQ.p Q0 (fun w hs => Yl.move Q0) ?_
      refine WQ.run (d := 48) Q0 Q0 ?_
      refine WQ.p Q0 (fun w hs => Yl.move Q0) ?_
      refine WQ.split (d := 50) Q0 (fun h5 => ?_) (fun h5 => ?_)
      ·
       refine WQ.run (d := 50) Q0 Q0 ?_
       refine WQ.p Q0 (fun w hs => Yl.move Q0) ?_
       refine WQ.run (d := 50) Q0 Q0 ?_
       refine WQ.p Q0 (fun w hs => Yl.loadAB agg43 Q0 hs Q1 Q0 Q0) ?_
       refine WQ.run (d := 50) Q0 Q0 ?_
       refine WQ.callp Q0 (fun w => Yc.func Q0 fn33) (fun w hs => (c_impl_AnswerTo _ _ _ (hs.okow (x := x4) (F := F4) Q1) (Flat.any hokx1_a))) (fun _ _ hs hb => hs.ext hb) ?_
       refine WQ.run (d := 50) Q0 Q0 ?_
       refine WQ.p Q0 (fun w hs => Yl.loadAB agg45 Q0 hs Q1 Q0 Q0) ?_
       refine WQ.run (d := 50) Q0 Q0 ?_
       refine WQ.callp Q0 (fun w => Yc.func Q0 fn26) (fun w hs => (c_impl_EqualResponses _ _ _)) (fun _ _ hs hb => hs.ext hb) ?_
       refine WQ.run (d := 50) Q0 Q0 ?_
       refine WQ.p Q0 (fun w hs => Yl.not Q0) ?_
       refine WQ.run (d := 48) Q0 Q0 ?_
       refine WQ.p Q0 (fun w hs => Yl.pickT Q0 Q0) ?_
       refine WQ.p Q0 (fun w hs => Yl.pickF Q0 Q0) ?_
       refine WQ.p Q0 (fun w hs => Yl.move Q0) ?_
       refine WQ.split (d := 59) Q0 (fun h6 => ?_) (fun h6 => ?_)
       ·
        replace h6 := not_eq_true h6
        refine WQ.skip (d := 59) Q0 Q0 Q0 Q0 ?_
        refine WQ.skip (d := 59) Q0 Q0 Q0 Q0 ?_
        refine WQ.skip (d := 59) Q0 Q0 Q0 Q0 ?_
        refine WQ.skip (d := 59) Q0 Q0 Q0 Q0 ?_
        refine WQ.skip (d := 59) Q0 Q0 Q0 Q0 ?_
        refine WQ.p Q0 (fun w hs => Yl.pickT Q0 Q0) ?_
        refine WQ.nil fun a ha => join _ _ ?_ ⟨by rfl, trivial⟩ ⟨by rfl, by rfl, by rfl, by rfl, by rfl, by rfl, by rfl, by rfl, by rfl, trivial⟩ a ha
        (try clear join); (try clear ha); (try clear hs)
        simp_all [putFile_no, put_answer, put_answer_other, put_servers]
       ·
        replace h6 := not_eq_false h6
        refine WQ.run (d := 59) Q0 Q0 ?_
        refine WQ.p Q0 (fun w hs => Yl.move Q0) ?_
        refine WQ.run (d := 59) Q0 Q0 ?_
        refine WQ.callp Q0 (fun w => Yc.func Q0 fn34) (fun w hs => (c_impl_AreServers _ _ (hs.okow (x := x1_l) (F := F1) Q1) Q7 (by first | assumption | exact Sat.cellm hs (by assumption)))) (fun _ _ hs hb => hs.ext hb) ?_
        refine WQ.run (d := 59) Q0 Q0 ?_
        refine WQ.p Q0 (fun w hs => Yl.move Q0) ?_
        refine WQ.run (d := 59) Q0 Q0 ?_
        refine WQ.callp Q0 (fun w => Yc.func Q0 fn35) (fun w hs => (c_spec_AreServers _ _ (hs.okow (x := x1_l) (F := F1) Q1) Q7)) (fun _ _ hs hb => hs.ext hb) ?_
        refine WQ.run (d := 59) Q0 Q0 ?_
        refine WQ.p Q0 (fun w hs => Yl.neb bool4 Q0 Q0) ?_
        refine WQ.p Q0 (fun w hs => Yl.pickF Q0 Q0) ?_
        refine WQ.nil fun a ha => join _ _ ?_ ⟨by rfl, trivial⟩ ⟨by rfl, by rfl, by rfl, by rfl, by rfl, by rfl, by rfl, by rfl, by rfl, trivial⟩ a ha
        (try clear join); (try clear ha); (try clear hs)
        simp_all [putFile_no, put_answer, put_answer_other, put_servers]
      ·
       refine WQ.skip (d := 50) Q0 Q0 Q0 Q0 ?_
       refine WQ.skip (d := 50) Q0 Q0 Q0 Q0 ?_
       refine WQ.skip (d := 50) Q0 Q0 Q0 Q0 ?_
       refine WQ.skip (d := 50) Q0 Q0 Q0 Q0 ?_
       refine WQ.skip (d := 50) Q0 Q0 Q0 Q0 ?_
       refine WQ.skip (d := 50) Q0 Q0 Q0 Q0 ?_
       refine WQ.run (d := 48) Q0 Q0 ?_
       refine WQ.p Q0 (fun w hs => Yl.pickF Q0 Q0) ?_
       refine WQ.p Q0 (fun w hs => Yl.pickF Q0 Q0) ?_
       refine WQ.p Q0 (fun w hs => Yl.move Q0) ?_
       refine WQ.run (d := 59) Q0 Q0 ?_
       refine WQ.p Q0 (fun w hs => Yl.move Q0) ?_
       refine WQ.run (d := 59) Q0 Q0 ?_
       refine WQ.callp Q0 (fun w => Yc.func Q0 fn34) (fun w hs => (c_impl_AreServers _ _ (hs.okow (x := x1_l) (F := F1) Q1) Q7 (by first | assumption | exact Sat.cellm hs (by assumption)))) (fun _ _ hs hb => hs.ext hb) ?_
       refine WQ.run (d := 59) Q0 Q0 ?_
       refine WQ.p Q0 (fun w hs => Yl.move Q0) ?_
       refine WQ.run (d := 59) Q0 Q0 ?_
       refine WQ.callp Q0 (fun w => Yc.func Q0 fn35) (fun w hs => (c_spec_AreServers _ _ (hs.okow (x := x1_l) (F := F1) Q1) Q7)) (fun _ _ hs hb => hs.ext hb) ?_
       refine WQ.run (d := 59) Q0 Q0 ?_
       refine WQ.p Q0 (fun w hs => Yl.neb bool4 Q0 Q0) ?_
       refine WQ.p Q0 (fun w hs => Yl.pickF Q0 Q0) ?_
       refine WQ.nil fun a ha => join _ _ ?_ ⟨by rfl, trivial⟩ ⟨by rfl, by rfl, by rfl, by rfl, by rfl, by rfl, by rfl, by rfl, by rfl, trivial⟩ a ha
       (try clear join); (try clear ha); (try clear hs)
       simp_all [putFile_no, put_answer, put_answer_other, put_servers]
    ·
     replace h3 := not_eq_false h3
     refine WQ.skip (d := 41) Q0 Q0 Q0 Q0 ?_
     refine WQ.skip (d := 41) Q0 Q0 Q0 Q0 ?_
     refine WQ.skip (d := 41) Q0 Q0 Q0 Q0 ?_
     refine WQ.skip (d := 41) Q0 Q0 Q0 Q0 ?_
     refine WQ.run (d := 38) Q0 Q0 ?_
     refine WQ.p Q0 (fun w hs => Yl.pickF Q0 Q0) ?_
     refine WQ.p Q0 (fun w hs => Yl.pickF Q0 Q0) ?_
     refine WQ.p Q0 (fun w hs => Yl.move Q0) ?_
     refine WQ.run (d := 48) Q0 Q0 ?_
     refine WQ.p Q0 (fun w hs => Yl.move Q0) ?_
     refine WQ.run (d := 48) Q0 Q0 ?_
     refine WQ.p Q0 (fun w hs => Yl.move Q0) ?_
     refine WQ.split (d := 50) Q0 (fun h4 => ?_) (fun h4 => ?_)
     ·
      refine WQ.run (d := 50) Q0 Q0 ?_
      refine WQ.p Q0 (fun w hs => Yl.move Q0) ?_
      refine WQ.run (d := 50) Q0 Q0 ?_
      refine WQ.p Q0 (fun w hs => Yl.loadAB agg43 Q0 hs Q1 Q0 Q0) ?_
      refine WQ.run (d := 50) Q0 Q0 ?_
      refine WQ.callp Q0 (fun w => Yc.func Q0 fn33) (fun w hs => (c_impl_AnswerTo _ _ _ (hs.okow (x := x4) (F := F4) Q1) (Flat.any hokx1_a))) (fun _ _ hs hb => hs.ext hb) ?_
      refine WQ.run (d := 50) Q0 Q0 ?_
      refine WQ.p Q0 (fun w hs => Yl.loadAB agg45 Q0 hs Q1 Q0 Q0) ?_
      refine WQ.run (d := 50) Q0 Q0 ?_
      refine WQ.callp Q0 (fun w => Yc.func Q0 fn26) (fun w hs => (c_impl_EqualResponses _ _ _)) (fun _ _ hs hb => hs.ext hb) ?_
      refine WQ.run (d := 50) Q0 Q0 ?_
      refine WQ.p Q0 (fun w hs => Yl.not Q0) ?_
      refine WQ.run (d := 48) Q0 Q0 ?_
      refine WQ.p Q0 (fun w hs => Yl.pickT Q0 Q0) ?_
      refine WQ.p Q0 (fun w hs => Yl.pickF Q0 Q0) ?_
      refine WQ.p Q0 (fun w hs => Yl.move Q0) ?_
      refine WQ.split (d := 59) Q0 (fun h5 => ?_) (fun h5 => ?_)
      ·
       replace h5 := not_eq_true h5
       refine WQ.skip (d := 59) Q0 Q0 Q0 Q0 ?_
       refine WQ.skip (d := 59) Q0 Q0 Q0 Q0 ?_
       refine WQ.skip (d := 59) Q0 Q0 Q0 Q0 ?_
       refine WQ.skip (d := 59) Q0 Q0 Q0 Q0 ?_
       refine WQ.skip (d := 59) Q0 Q0 Q0 Q0 ?_
       refine WQ.p Q0 (fun w hs => Yl.pickT Q0 Q0) ?_
       refine WQ.nil fun a ha => join _ _ ?_ ⟨by rfl, trivial⟩ ⟨by rfl, by rfl, by rfl, by rfl, by rfl, by rfl, by rfl, by rfl, by rfl, trivial⟩ a ha
       (try clear join); (try clear ha); (try clear hs)
       simp_all [putFile_no, put_answer, put_answer_other, put_servers]
      ·
       replace h5 := not_eq_false h5
       refine WQ.run (d := 59) Q0 Q0 ?_
       refine WQ.p Q0 (fun w hs => Yl.move Q0) ?_
       refine WQ.run (d := 59) Q0 Q0 ?_
       refine WQ.callp Q0 (fun w => Yc.func Q0 fn34) (fun w hs => (c_impl_AreServers _ _ (hs.okow (x := x1_l) (F := F1) Q1) Q7 (by first | assumption | exact Sat.cellm hs (by assumption)))) (fun _ _ hs hb => hs.ext hb) ?_
       refine WQ.run (d := 59) Q0 Q0 ?_
       refine WQ.p Q0 (fun w hs => Yl.move Q0) ?_
       refine WQ.run (d := 59) Q0 Q0 ?_
       refine WQ.callp Q0 (fun w => Yc.func Q0 fn35) (fun w hs => (c_spec_AreServers _ _ (hs.okow (x := x1_l) (F := F1) Q1) Q7)) (fun _ _ hs hb => hs.ext hb) ?_
       refine WQ.run (d := 59) Q0 Q0 ?_
       refine WQ.p Q0 (fun w hs => Yl.neb bool4 Q0 Q0) ?_
       refine WQ.p Q0 (fun w hs => Yl.pickF Q0 Q0) ?_
       refine WQ.nil fun a ha => join _ _ ?_ ⟨by rfl, trivial⟩ ⟨by rfl, by rfl, by rfl, by rfl, by rfl, by rfl, by rfl, by rfl, by rfl, trivial⟩ a ha
       (try clear join); (try clear ha); (try clear hs)
       simp_all [putFile_no, put_answer, put_answer_other, put_servers]
     ·
      refine WQ.skip (d := 50) Q0 Q0 Q0 Q0 ?_
      refine WQ.skip (d := 50) Q0 Q0 Q0 Q0 ?_
      refine WQ.skip (d := 50) Q0 Q0 Q0 Q0 ?_
      refine WQ.skip (d := 50) Q0 Q0 Q0 Q0 ?_
      refine WQ.skip (d := 50) Q0 Q0 Q0 Q0 ?_
      refine WQ.skip (d := 50) Q0 Q0 Q0 Q0 ?_
      refine WQ.run (d := 48) Q0 Q0 ?_
      refine WQ.p Q0 (fun w hs => Yl.pickF Q0 Q0) ?_
      refine WQ.p Q0 (fun w hs => Yl.pickF Q0 Q0) ?_
      refine WQ.p Q0 (fun w hs => Yl.move Q0) ?_
      refine WQ.run (d := 59) Q0 Q0 ?_
      refine WQ.p Q0 (fun w hs => Yl.move Q0) ?_
      refine WQ.run (d := 59) Q0 Q0 ?_
      refine WQ.callp Q0 (fun w => Yc.func Q0 fn34) (fun w hs => (c_impl_AreServers _ _ (hs.okow (x := x1_l) (F := F1) Q1) Q7 (by first | assumption | exact Sat.cellm hs (by assumption)))) (fun _ _ hs hb => hs.ext hb) ?_
      refine WQ.run (d := 59) Q0 Q0 ?_
      refine WQ.p Q0 (fun w hs => Yl.move Q0) ?_
      refine WQ.run (d := 59) Q0 Q0 ?_
      refine WQ.callp Q0 (fun w => Yc.func Q0 fn35) (fun w hs => (c_spec_AreServers _ _ (hs.okow (x := x1_l) (F := F1) Q1) Q7)) (fun _ _ hs hb => hs.ext hb) ?_
      refine WQ.run (d := 59) Q0 Q0 ?_
      refine WQ.p Q0 (fun w hs => Yl.neb bool4 Q0 Q0) ?_
      refine WQ.p Q0 (fun w hs => Yl.pickF Q0 Q0) ?_
      refine WQ.nil fun a ha => join _ _ ?_ ⟨by rfl, trivial⟩ ⟨by rfl, by rfl, by rfl, by rfl, by rfl, by rfl, by rfl, by rfl, by rfl, trivial⟩ a ha
      (try clear join); (try clear ha); (try clear hs)
      simp_all [putFile_no, put_answer, put_answer_other, put_servers]
  ·
   clear hs; rintro _ w rfl hs
   refine WC.condF Q0 ?_
   refine WC.skipn ?_
   refine WC.seq' ?_
   refine WC.seq ?_
   refine WL.r Q0 (Yr.buildSlice hs sll24 Q0 Q0 Q0 Q4 Q0) ?_
   clear hs; rintro _ w ⟨b6, rfl, hb, hs⟩; clear hb
   replace hs := Sat.boxow (l := ([([97, 112, 112] : Str), ([108, 105, 98] : Str), ([115, 116, 121, 108, 101] : Str), ([105, 110, 100, 101, 120] : Str)] : List Str)) (hs.sel (D := [box b6 _ _]) Q2) rfl rfl (by decide) (ownL_mk_flat (lit_str Q0))
   try simp only [List.cons_append, List.nil_append] at hs
   refine WL.p Q0 (Yl.len_sl slu24 Q0) ?_
   refine Qm ?_
   refine WL.next ?_
   refine WC.block ?_
   refine WC.loopC (ι := Nat) (fun k => 4 - k) (fun k => [(68, I (k : Int))]) (fun _ => []) (fun k => True) [(0, _), (3, _), (4, _), (5, _), (6, _), (7, _), (9, _), (14, _), (65, _), (66, _), (67, _)] 0 (hs) ⟨by rfl, by rfl, by rfl, by rfl, by rfl, by rfl, by rfl, by rfl, by rfl, by rfl, by rfl, trivial⟩ ⟨by rfl, trivial⟩ ?_ ?_
   ·
    exact trivial
   clear hs; rintro k w hJ hs
   simp only [List.nil_append] at hs
   refine WC.seq ?_
   refine WL.p Q0 (Yl.lss Q0 Q0) ?_
   refine WL.next ?_
   refine WC.seq' ?_
   refine WC.condS Q0 (fun h2 => ?_) (fun h2 => ?_)
   ·
    replace h2 := of_decide_eq_true h2
    replace h2 : (k : Int) < 4 := h2
    obtain ⟨d, hd⟩ := exists_get (l := ([([97, 112, 112] : Str), ([108, 105, 98] : Str), ([115, 116, 121, 108, 101] : Str), ([105, 110, 100, 101, 120] : Str)] : List Str)) (k := k) (by simp; omega)
    have hdn := mem_len 5 (List.mem_of_getElem? hd) Q0
    refine WC.skipn ?_
    refine WC.seq' ?_
    refine WC.block ?_
    refine WC.seq ?_
    refine WL.p Q0 (Yl.indexAddr slt24 Q0 Q0 (hs.okow (x := (⟨[([97, 112, 112] : Str), ([108, 105, 98] : Str), ([115, 116, 121, 108, 101] : Str), ([105, 110, 100, 101, 120] : Str)], some ⟨b6, 0, none⟩, 4⟩ : Sl Str)) (F := [b6]) Q1) Q0 (hd)) ?_
    refine WL.p Q0 (Yl.loadC0 sca9 Q0 (Sl.Ok.at_ (hs.okow (x := (⟨[([97, 112, 112] : Str), ([108, 105, 98] : Str), ([115, 116, 121, 108, 101] : Str), ([105, 110, 100, 101, 120] : Str)], some ⟨b6, 0, none⟩, 4⟩ : Sl Str)) (F := [b6]) Q1) (by assumption)).2 Q0) ?_
    refine Qa ?_
    refine WL.next ?_
    refine WC.seq ?_
    refine Qm ?_
    refine WL.p Q0 (Yl.build bt43 Q0 Q4) ?_
    refine WL.r Q0 (Yr.alloc hs zt43) ?_
    clear hs; rintro _ w ⟨b7, rfl, hb, hs⟩; clear hb
    refine WL.s (Yr.storeB hs Q0 Q0 Q0 Q5 Q3 Q0 (by exact szf43)) ?_
    clear hs; rintro _ w hs
    refine WL.next ?_
    refine WC.quietn mixed Q6 hs ?_
    refine WQ.p Q0 (fun w hs => Yl.loadAB agg43 Q0 hs Q1 Q0 Q0) ?_
    refine WQ.p Q0 (fun w hs => Yl.loadAB agg43 Q0 hs Q1 Q0 Q0) ?_
    refine WQ.p Q0 (fun w hs => Yl.net (x := (⟨([104, 111, 109, 101] : Str), d⟩ : TAddr)) eqt43 Q0 Q0) ?_
    refine WQ.p Q0 (fun w hs => Yl.move Q0) ?_
    refine WQ.split (d := 77) Q0 (fun h3 => ?_) (fun h3 => ?_)
    ·
     replace h3 := not_eq_true h3
     replace h3 := of_decide_eq_false h3
     refine WQ.run (d := 77) Q0 Q0 ?_
     refine WQ.p Q0 (fun w hs => Yl.move Q0) ?_
     refine WQ.run (d := 77) Q0 Q0 ?_
     refine WQ.p Q0 (fun w hs => Yl.loadAB agg43 Q0 hs Q1 Q0 Q0) ?_
     refine WQ.run (d := 77) Q0 Q0 ?_
     refine WQ.callp Q0 (fun w => Yc.func Q0 fn33) (fun w hs => (c_impl_AnswerTo _ (⟨([104, 111, 109, 101] : Str), d⟩ : TAddr) _ (hs.okow (x := x4) (F := F4) Q1) ⟨(show WfS [104, 111, 109, 101] from (by unfold WfS; simp)), (Sl.Ok.elem (hs.okow (x := (⟨[([97, 112, 112] : Str), ([108, 105, 98] : Str), ([115, 116, 121, 108, 101] : Str), ([105, 110, 100, 101, 120] : Str)], some ⟨b6, 0, none⟩, 4⟩ : Sl Str)) (F := [b6]) Q1) hd)⟩)) (fun _ _ hs hb => hs.ext hb) ?_
     refine WQ.run (d := 77) Q0 Q0 ?_
     refine WQ.p Q0 (fun w hs => Yl.move Q0) ?_
     refine WQ.run (d := 77) Q0 Q0 ?_
     refine WQ.p Q0 (fun w hs => Yl.loadAB agg43 Q0 hs Q1 Q0 Q0) ?_
     refine WQ.run (d := 77) Q0 Q0 ?_
     refine WQ.callp Q0 (fun w => Yc.func Q0 fn33) (fun w hs => (c_impl_AnswerTo _ (⟨([104, 111, 109, 101] : Str), d⟩ : TAddr) _ (hs.okow (x := x1_l) (F := F1) Q1) ⟨(show WfS [104, 111, 109, 101] from (by unfold WfS; simp)), (Sl.Ok.elem (hs.okow (x := (⟨[([97, 112, 112] : Str), ([108, 105, 98] : Str), ([115, 116, 121, 108, 101] : Str), ([105, 110, 100, 101, 120] : Str)], some ⟨b6, 0, none⟩, 4⟩ : Sl Str)) (F := [b6]) Q1) hd)⟩)) (fun _ _ hs hb => hs.ext hb) ?_
     refine WQ.run (d := 77) Q0 Q0 ?_
     refine WQ.callp Q0 (fun w => Yc.func Q0 fn26) (fun w hs => (c_impl_EqualResponses _ _ _)) (fun _ _ hs hb => hs.ext hb) ?_
     refine WQ.run (d := 77) Q0 Q0 ?_
     refine WQ.p Q0 (fun w hs => Yl.not Q0) ?_
     refine WQ.p Q0 (fun w hs => Yl.pickT Q0 Q0) ?_
     refine WQ.next ?_
     clear hs; intro w hs
     refine WC.condS Q0 (fun h4 => ?_) (fun h4 => ?_)
     ·
      replace h4 := not_eq_true h4
      exfalso
      (try clear join); (try clear ha); (try clear hs)
      simp_all [putFile_no, put_answer, put_answer_other, put_servers]
     ·
      replace h4 := not_eq_false h4
      refine WC.skip ?_
      refine At.blocknormal ?_
      refine At.then_ ?_
      refine WC.region ?_
      refine WL.p Q0 (Yl.add Q0 Q0 Q7) ?_
      refine Qm ?_
      refine WL.nil ?_
      refine At.roundC (k + 1) (hs.only Q2) ⟨by rfl, by rfl, by rfl, by rfl, by rfl, by rfl, by rfl, by rfl, by rfl, by rfl, by rfl, trivial⟩ ⟨by rfl, trivial⟩ ?_ ?_
      ·
       omega
      ·
       trivial
    ·
     replace h3 := not_eq_false h3
     replace h3 := of_decide_eq_true h3
     refine WQ.skip (d := 77) Q0 Q0 Q0 Q0 ?_
     refine WQ.skip (d := 77) Q0 Q0 Q0 Q0 ?_
     refine WQ.skip (d := 77) Q0 Q0 Q0 Q0 ?_
     refine WQ.skip (d := 77) Q0 Q0 Q0 Q0 ?_
     refine WQ.skip (d := 77) Q0 Q0 Q0 Q0 ?_
     refine WQ.skip (d := 77) Q0 Q0 Q0 Q0 ?_
     refine WQ.skip (d := 77) Q0 Q0 Q0 Q0 ?_
     refine WQ.skip (d := 77) Q0 Q0 Q0 Q0 ?_
     refine WQ.p Q0 (fun w hs => Yl.pickF Q0 Q0) ?_
     refine WQ.next ?_
     clear hs; intro w hs
     refine WC.condF Q0 ?_
     refine WC.skip ?_
     refine At.blocknormal ?_
     refine At.then_ ?_
     refine WC.region ?_
     refine WL.p Q0 (Yl.add Q0 Q0 Q7) ?_
     refine Qm ?_
     refine WL.nil ?_
     refine At.roundC (k + 1) (hs.only Q2) ⟨by rfl, by rfl, by rfl, by rfl, by rfl, by rfl, by rfl, by rfl, by rfl, by rfl, by rfl, trivial⟩ ⟨by rfl, trivial⟩ ?_ ?_
     ·
      omega
     ·
      trivial
   ·
    replace h2 := of_decide_eq_false h2
    refine WC.exit ?_
    refine At.thenexit ?_
    refine At.thenexit ?_
    refine At.blockexit ?_
    refine At.then_ ?_
    refine WC.seq ?_
    refine Qm ?_
    refine WL.p Q0 (Yl.not Q0) ?_
    refine Qm ?_
    refine WL.split (d := 90) Q0 (fun h3 => ?_) (fun h3 => ?_)
    ·
     replace h3 := not_eq_true h3
     refine WL.skip (d := 90) Q0 Q0 Q0 Q0 ?_
     refine WL.skip (d := 90) Q0 Q0 Q0 Q0 ?_
     refine WL.skip (d := 90) Q0 Q0 Q0 Q0 ?_
     refine WL.p Q0 (Yl.pickT Q0 Q0) ?_
     refine Qm ?_
     refine WL.skip (d := 95) Q0 Q0 Q0 Q0 ?_
     refine WL.skip (d := 95) Q0 Q0 Q0 Q0 ?_
     refine WL.p Q0 (Yl.pickT Q0 Q0) ?_
     refine Qa ?_
     refine WL.next ?_
     refine WC.ret ?_
     refine fin1' rfl Q0 ?_
     refine RetP.mk hs ?_
     first
      | rfl
      | (clear hs; simp_all [putFile_no, put_answer, put_answer_other, put_servers])
    ·
     replace h3 := not_eq_false h3
     refine WL.run (d := 90) Q0 Q0 ?_
     refine Qm ?_
     refine WL.run (d := 90) Q0 Q0 ?_
     refine WL.callp hs Q0 (Yc.func Q0 fn34) (c_impl_AreServers _ _ (hs.okow (x := x1_l) (F := F1) Q1) Q7 (by first | assumption | exact Sat.cellm hs (by assumption))) ?_
     clear hs; intro w hs
     refine WL.run (d := 90) Q0 Q0 ?_
     refine WL.p Q0 (Yl.not Q0) ?_
     refine WL.p Q0 (Yl.pickF Q0 Q0) ?_
     refine Qm ?_
     refine WL.split (d := 95) Q0 (fun h4 => ?_) (fun h4 => ?_)
     ·
      replace h4 := not_eq_true h4
      refine WL.skip (d := 95) Q0 Q0 Q0 Q0 ?_
      refine WL.skip (d := 95) Q0 Q0 Q0 Q0 ?_
      refine WL.p Q0 (Yl.pickT Q0 Q0) ?_
      refine Qa ?_
      refine WL.next ?_
      refine WC.ret ?_
      refine fin1' rfl Q0 ?_
      refine RetP.mk hs ?_
      first
       | rfl
       | (clear hs; simp_all [putFile_no, put_answer, put_answer_other, put_servers])
     ·
      replace h4 := not_eq_false h4
      refine WL.run (d := 95) Q0 Q0 ?_
      refine Qm ?_
      refine WL.run (d := 95) Q0 Q0 ?_
      refine WL.callp hs Q0 (Yc.func Q0 fn34) (c_impl_AreServers _ _ (hs.okow (x := x4) (F := F4) Q1) Q7 (by first | assumption | exact Sat.cellm hs (by assumption))) ?_
      clear hs; intro w hs
      refine WL.p Q0 (Yl.pickF Q0 Q0) ?_
      refine Qa ?_
      refine WL.next ?_
      refine WC.ret ?_
      refine fin1' rfl Q0 ?_
      refine RetP.mk hs ?_
      first
       | rfl
       | (clear hs; simp_all [putFile_no, put_answer, put_answer_other, put_servers])

end Go.Sw
