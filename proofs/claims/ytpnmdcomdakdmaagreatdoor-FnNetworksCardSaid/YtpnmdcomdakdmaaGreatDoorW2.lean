/- Walks: what each function of the program returns, for every input. Printed by gen.py. -/
import Derived.Test.YtpnmdcomdakdmaaGreatDoorW1
set_option linter.all false
namespace Go.Sw
open Go Go.RowKit Go.Proofs

set_option maxRecDepth 20000 in
theorem c_spec_l14Net (c : Nat) (b_ : Sl UInt8) (w : World)   (h_c : CurAt 205 b_ c w) (hb_c : CurB w b_ c) : Calls Tryz.prog 173 [bp c 0].toArray w (RetD 205 b_ c w (fun v w' => ∃ (n : PNet), v = .agg (Ph.enc n).toArray ∧ (True) ∧ (NetAt n.lg 40000 240300 60) ∧ Fresh w n w')) := by
 refine enterN 31 Tryz.func173 rfl rfl rfl ?_
 have hs := Sat.startC h_c
 refine WC.seq ?_
 refine WL.r Q0 (Yr.alloc hs zt30) ?_
 clear hs; rintro _ w ⟨b1, rfl, hb, hs⟩; clear hb
 refine WL.next ?_
 refine WC.seq ?_
 refine Qm ?_
 refine WL.calld hs (T := 205) (b := b_) (c := c) Q2 Q0 (Yc.func Q0 fn238) (c_spec_l12Servers c b_ _ (hs.cur Q1) (Apart.now hb_c hs)) ?_
 clear hs; intro v w ho hR hs
 obtain ⟨x2, rfl, _, hx2, hf2⟩ := hR
 obtain ⟨F2, hs⟩ := hs.addF ho hf2
 clear ho hf2
 refine Qm ?_
 refine WL.calld hs (T := 205) (b := b_) (c := c) Q2 Q0 (Yc.func Q0 fn118) (c_spec_l1Below c b_ _ _ (hs.cur Q1) (Apart.now hb_c hs)) ?_
 clear hs; intro v w ho hR hs
 obtain ⟨x3, rfl, hokx3, hx3, hf3⟩ := hR
 clear ho hf3
 replace hx3 : 0 ≤ x3 ∧ x3 < 20 := ⟨hx3.1, hx3.2.2 (by decide)⟩
 refine WL.p Q0 (Yl.build bt30 Q0 Q4) ?_
 refine WL.r Q0 (Yr.alloc hs zt30) ?_
 clear hs; rintro _ w ⟨b4, rfl, hb, hs⟩; clear hb
 refine WL.s (Yr.storeB hs Q0 Q0 Q0 Q5 Q3 Q0 (by exact szf30)) ?_
 clear hs; rintro _ w hs
 refine WL.next ?_
 refine WC.seq' ?_
 refine WC.seq ?_
 refine Qm ?_
 refine WL.calld hs (T := 205) (b := b_) (c := c) Q2 Q0 (Yc.func Q0 fn118) (c_spec_l1Below c b_ _ _ (hs.cur Q1) (Apart.now hb_c hs)) ?_
 clear hs; intro v w ho hR hs
 obtain ⟨x5, rfl, hokx5, hx5, hf5⟩ := hR
 clear ho hf5
 replace hx5 : 0 ≤ x5 ∧ x5 < 4 := ⟨hx5.1, hx5.2.2 (by decide)⟩
 refine Qa ?_
 refine WL.next ?_
 refine WC.block ?_
 replace hs := Sat.nilsl (α := TEntry) hs
 replace hs := PCache.join (⟨⟨[], none, 0⟩⟩ : PCache) hs
 replace hs := Sat.nilsl (α := TSent) hs
 replace hs := PNet.join (⟨x2, ⟨⟨[], none, 0⟩⟩, ⟨[], none, 0⟩, x3⟩ : PNet) (hs.sel (D := [ow x2 F2, ow (⟨⟨[], none, 0⟩⟩ : PCache) [], ow (⟨[], none, 0⟩ : Sl TSent) []]) Q2) (show WfI x3 from ⟨by omega, by omega⟩)
 try simp only [List.cons_append, List.nil_append] at hs
 refine WC.loopC (ι := Int × PNet × List Nat) (fun ⟨m, q, F⟩ => m.toNat) (fun ⟨m, q, F⟩ => [(4, I m)]) (fun ⟨m, q, F⟩ => [box b4 30 [Sl.v q.servers, Sl.v q.cache.entries, Sl.v q.log, I q.now], ow q F]) (fun ⟨m, q, F⟩ => 0 ≤ m ∧ m ≤ 3 ∧ NetAt q.lg 40000 ((3 - m.toNat) * 80100) ((3 - m.toNat) * 20)) [(0, _), (2, _), (3, _)] (_, ⟨x2, ⟨⟨[], none, 0⟩⟩, ⟨[], none, 0⟩, x3⟩, _) (hs.sel (D := [box b4 30 _, ow (⟨x2, ⟨⟨[], none, 0⟩⟩, ⟨[], none, 0⟩, x3⟩ : PNet) _]) Q2) ⟨by rfl, by rfl, by rfl, trivial⟩ ⟨by rfl, trivial⟩ ?_ ?_
 ·
  refine ⟨by omega, by omega, ?_⟩
  exact ⟨hx2.1, Nat.zero_le _, Nat.zero_le _, fun s hs => (by cases hs), (by show -1 ≤ x3 ∧ x3 ≤ 999999998001; omega)⟩
 clear hs; rintro ⟨m, q, F⟩ w ⟨hJ1, hJ2, hJ3⟩ hs
 simp only [List.cons_append, List.nil_append] at hs
 refine WC.seq' ?_
 refine WC.seq ?_
 refine Qm ?_
 refine WL.p Q0 (Yl.gtr Q0 Q0) ?_
 refine WL.next ?_
 refine WC.condS Q0 (fun h1 => ?_) (fun h1 => ?_)
 ·
  replace h1 := of_decide_eq_true h1
  skip
  refine WC.skipn ?_
  refine WC.seq' ?_
  refine WC.block ?_
  refine WC.seq ?_
  refine Qm ?_
  refine WL.r Q0 (Yr.buildSlice hs sll34 Q0 Q0 Q0 Q4 Q0) ?_
  clear hs; rintro _ w ⟨b6, rfl, hb, hs⟩; clear hb
  replace hs := Sat.boxow (l := ([([104, 111, 109, 101] : Str), ([99, 100, 110] : Str)] : List Str)) (hs.sel (D := [box b6 _ _]) Q2) rfl rfl (by decide) (ownL_mk_flat (lit_str Q0))
  try simp only [List.cons_append, List.nil_append] at hs
  refine WL.calld hs (T := 205) (b := b_) (c := c) Q2 Q0 (Yc.func Q0 fn102) (c_spec_l1Str c b_ (⟨[([104, 111, 109, 101] : Str), ([99, 100, 110] : Str)], some ⟨b6, 0, none⟩, 2⟩ : Sl Str) _ (Apart.own (s := (⟨[([104, 111, 109, 101] : Str), ([99, 100, 110] : Str)], some ⟨b6, 0, none⟩, 2⟩ : Sl Str)) (F := [b6]) hs Q2) (by exact Nat.succ_pos _) (hs.cur Q1) (Apart.now hb_c hs)) ?_
  clear hs; intro v w ho hR hs
  obtain ⟨x7, rfl, hokx7, hx7, hf7⟩ := hR
  clear ho hf7
  replace hx7 : x7 ∈ ([([104, 111, 109, 101] : Str), ([99, 100, 110] : Str)] : List Str) := hx7
  have hn7 := mem_len 4 hx7 Q0
  refine Qa ?_
  refine WL.next ?_
  refine WC.any2 (c := box b4 _ _) mixed hs (by repeat (first | exact Ext.here | apply Ext.there)) ?_
  clear hs; intro w hs
  refine WA.p (i := 1) Q0 Q6 Q6 Q6 Q0 (hs.only Q2) (fun w hs => Yl.move Q0) ?_
  refine WA.p (i := 2) Q0 Q6 Q6 Q6 Q0 (hs.only Q2) (fun w hs => Yl.move Q0) ?_
  refine WA.p (i := 4) Q0 Q6 Q6 Q6 Q0 (hs.only Q2) (fun w hs => Yl.move Q0) ?_
  refine WA.two (i := 0) (j := 3) Q6 ?_ ?_
  ·
   refine WI.r (i := 0) Q0 Q0 (Yl.yr (Yl.loadAB agg30 Q0 hs Q1 Q0 Q0)) (by rintro _ _ ⟨rfl, rfl⟩; exact hs.only Q2) ?_
   rintro _ _ ⟨rfl, rfl⟩
   refine WA.calld (i := 3) hs (T := 205) (b := b_) (c := c) Q2 (fun _ hs => hs.only Q2) Q6 Q0 Q0 (Yc.func Q0 fn176) (c_spec_l4Addr c b_ _ (hs.cur Q1) (Apart.now hb_c hs)) ?_
   clear hs; intro v w ho hR hs
   obtain ⟨x8, rfl, hokx8, hx8, hf8⟩ := hR
   clear ho hf8
   have hn8 := hosts3_len hx8.1; have hm8 := hx8.2
   have hh8 := hx8.1
   refine WA.calld (i := 5) hs (T := 205) (b := b_) (c := c) Q2 (fun _ hs => hs.only Q2) Q6 Q0 Q0 (Yc.func Q0 fn100) (c_spec_l1Once c b_ _ _ (hs.cur Q1) (Apart.now hb_c hs)) ?_
   clear hs; intro v w ho hR hs
   obtain ⟨x9, rfl, _, hx9, hf9⟩ := hR
   clear ho hf9
   refine WA.call2 (i := 6) hs (fun _ hs => hs.only Q2) Q6 Q0 Q0 (Yc.func Q0 fn36) (c_spec_FetchNow _ _ _ _ _ ⟨(hs.okow (x := q) (F := F) Q1).servers, ⟨(hs.okow (x := q) (F := F) Q1).cache.entries⟩, (hs.okow (x := q) (F := F) Q1).log, (hs.okow (x := q) (F := F) Q1).now⟩ (Flat.any hokx7) (Flat.any hokx8) (by first | assumption | (refine Ph.old ?_ hs; assumption)) (by have := hJ3.srv; first | omega | (simp only [PNet.lg] at *; omega)) (by have := hJ3.cch; first | omega | (simp only [PNet.lg] at *; omega)) (by have := hJ3.len; simp only [PNet.lg] at this; first | omega | (simp only [PNet.lg] at *; omega))) ?_
   have hs0 := hs; clear hs; intro v w hb hR hs; clear hs
   obtain ⟨x10, rfl, hx10, hf10⟩ := hR
   obtain ⟨F10, hs⟩ := hf10.sat hs0 hb; clear hs0 hf10
   have hz10 := NetAt.fetch_of hx10 hJ3 (by assumption) (by assumption) (by assumption)
   refine WA.p (i := 7) Q0 Q6 Q6 Q6 Q0 (hs.only Q2) (fun w hs => Yl.move Q0) ?_
   refine WA.p (i := 8) Q0 Q6 Q6 Q6 Q0 (hs.only Q2) (fun w hs => Yl.extract Q0 Q0) ?_
   refine WA.p (i := 9) Q0 Q6 Q6 Q6 Q0 (hs.only Q2) (fun w hs => Yl.extract Q0 Q0) ?_
   refine WA.s (i := 10) Q6 Q0 (Yr.storeB hs Q0 Q0 Q0 Q5 Q3 Q0 (by exact szf30)) (by rintro _ w hs; exact hs.only Q2) ?_
   clear hs; rintro _ w hs
   refine WA.done Q6 ?_
   refine At.blocknormal ?_
   refine At.then_ ?_
   refine WC.region ?_
   refine Qm ?_
   refine WL.p Q0 (Yl.sub_ Q0 Q0 Q7) ?_
   refine Qa ?_
   refine WL.nil ?_
   refine At.roundC (_, x10, _) (hs.only Q2) ⟨by rfl, by rfl, by rfl, trivial⟩ ⟨by rfl, trivial⟩ ?_ ?_
   ·
    show (m - 1).toNat < m.toNat
    omega
   ·
    refine ⟨by omega, by omega, ?_⟩
    exact NetAt.mono (by assumption) Q7 Q7
  ·
   refine WI.calld (i := 3) hs (T := 205) (b := b_) (c := c) Q2 (fun _ hs => hs.only Q2) Q0 Q0 (Yc.func Q0 fn176) (c_spec_l4Addr c b_ _ (hs.cur Q1) (Apart.now hb_c hs)) ?_
   clear hs; intro v w ho hR hs
   obtain ⟨x11, rfl, hokx11, hx11, hf11⟩ := hR
   clear ho hf11
   have hn11 := hosts3_len hx11.1; have hm11 := hx11.2
   have hh11 := hx11.1
   refine WA.two (i := 0) (j := 5) Q6 ?_ ?_
   ·
    refine WI.r (i := 0) Q0 Q0 (Yl.yr (Yl.loadAB agg30 Q0 hs Q1 Q0 Q0)) (by rintro _ _ ⟨rfl, rfl⟩; exact hs.only Q2) ?_
    rintro _ _ ⟨rfl, rfl⟩
    refine WA.calld (i := 5) hs (T := 205) (b := b_) (c := c) Q2 (fun _ hs => hs.only Q2) Q6 Q0 Q0 (Yc.func Q0 fn100) (c_spec_l1Once c b_ _ _ (hs.cur Q1) (Apart.now hb_c hs)) ?_
    clear hs; intro v w ho hR hs
    obtain ⟨x12, rfl, _, hx12, hf12⟩ := hR
    clear ho hf12
    refine WA.call2 (i := 6) hs (fun _ hs => hs.only Q2) Q6 Q0 Q0 (Yc.func Q0 fn36) (c_spec_FetchNow _ _ _ _ _ ⟨(hs.okow (x := q) (F := F) Q1).servers, ⟨(hs.okow (x := q) (F := F) Q1).cache.entries⟩, (hs.okow (x := q) (F := F) Q1).log, (hs.okow (x := q) (F := F) Q1).now⟩ (Flat.any hokx7) (Flat.any hokx11) (by first | assumption | (refine Ph.old ?_ hs; assumption)) (by have := hJ3.srv; first | omega | (simp only [PNet.lg] at *; omega)) (by have := hJ3.cch; first | omega | (simp only [PNet.lg] at *; omega)) (by have := hJ3.len; simp only [PNet.lg] at this; first | omega | (simp only [PNet.lg] at *; omega))) ?_
    have hs0 := hs; clear hs; intro v w hb hR hs; clear hs
    obtain ⟨x13, rfl, hx13, hf13⟩ := hR
    obtain ⟨F13, hs⟩ := hf13.sat hs0 hb; clear hs0 hf13
    have hz13 := NetAt.fetch_of hx13 hJ3 (by assumption) (by assumption) (by assumption)
    refine WA.p (i := 7) Q0 Q6 Q6 Q6 Q0 (hs.only Q2) (fun w hs => Yl.move Q0) ?_
    refine WA.p (i := 8) Q0 Q6 Q6 Q6 Q0 (hs.only Q2) (fun w hs => Yl.extract Q0 Q0) ?_
    refine WA.p (i := 9) Q0 Q6 Q6 Q6 Q0 (hs.only Q2) (fun w hs => Yl.extract Q0 Q0) ?_
    refine WA.s (i := 10) Q6 Q0 (Yr.storeB hs Q0 Q0 Q0 Q5 Q3 Q0 (by exact szf30)) (by rintro _ w hs; exact hs.only Q2) ?_
    clear hs; rintro _ w hs
    refine WA.done Q6 ?_
    refine At.blocknormal ?_
    refine At.then_ ?_
    refine WC.region ?_
    refine Qm ?_
    refine WL.p Q0 (Yl.sub_ Q0 Q0 Q7) ?_
    refine Qa ?_
    refine WL.nil ?_
    refine At.roundC (_, x13, _) (hs.only Q2) ⟨by rfl, by rfl, by rfl, trivial⟩ ⟨by rfl, trivial⟩ ?_ ?_
    ·
     show (m - 1).toNat < m.toNat
     omega
    ·
     refine ⟨by omega, by omega, ?_⟩
     exact NetAt.mono (by assumption) Q7 Q7
   ·
    refine WI.calld (i := 5) hs (T := 205) (b := b_) (c := c) Q2 (fun _ hs => hs.only Q2) Q0 Q0 (Yc.func Q0 fn100) (c_spec_l1Once c b_ _ _ (hs.cur Q1) (Apart.now hb_c hs)) ?_
    clear hs; intro v w ho hR hs
    obtain ⟨x14, rfl, _, hx14, hf14⟩ := hR
    clear ho hf14
    refine WA.r (i := 0) Q6 Q0 Q0 (Yl.yr (Yl.loadAB agg30 Q0 hs Q1 Q0 Q0)) (by rintro _ _ ⟨rfl, rfl⟩; exact hs.only Q2) ?_
    rintro _ _ ⟨rfl, rfl⟩
    refine WA.call2 (i := 6) hs (fun _ hs => hs.only Q2) Q6 Q0 Q0 (Yc.func Q0 fn36) (c_spec_FetchNow _ _ _ _ _ ⟨(hs.okow (x := q) (F := F) Q1).servers, ⟨(hs.okow (x := q) (F := F) Q1).cache.entries⟩, (hs.okow (x := q) (F := F) Q1).log, (hs.okow (x := q) (F := F) Q1).now⟩ (Flat.any hokx7) (Flat.any hokx11) (by first | assumption | (refine Ph.old ?_ hs; assumption)) (by have := hJ3.srv; first | omega | (simp only [PNet.lg] at *; omega)) (by have := hJ3.cch; first | omega | (simp only [PNet.lg] at *; omega)) (by have := hJ3.len; simp only [PNet.lg] at this; first | omega | (simp only [PNet.lg] at *; omega))) ?_
    have hs0 := hs; clear hs; intro v w hb hR hs; clear hs
    obtain ⟨x15, rfl, hx15, hf15⟩ := hR
    obtain ⟨F15, hs⟩ := hf15.sat hs0 hb; clear hs0 hf15
    have hz15 := NetAt.fetch_of hx15 hJ3 (by assumption) (by assumption) (by assumption)
    refine WA.p (i := 7) Q0 Q6 Q6 Q6 Q0 (hs.only Q2) (fun w hs => Yl.move Q0) ?_
    refine WA.p (i := 8) Q0 Q6 Q6 Q6 Q0 (hs.only Q2) (fun w hs => Yl.extract Q0 Q0) ?_
    refine WA.p (i := 9) Q0 Q6 Q6 Q6 Q0 (hs.only Q2) (fun w hs => Yl.extract Q0 Q0) ?_
    refine WA.s (i := 10) Q6 Q0 (Yr.storeB hs Q0 Q0 Q0 Q5 Q3 Q0 (by exact szf30)) (by rintro _ w hs; exact hs.only Q2) ?_
    clear hs; rintro _ w hs
    refine WA.done Q6 ?_
    refine At.blocknormal ?_
    refine At.then_ ?_
    refine WC.region ?_
    refine Qm ?_
    refine WL.p Q0 (Yl.sub_ Q0 Q0 Q7) ?_
    refine Qa ?_
    refine WL.nil ?_
    refine At.roundC (_, x15, _) (hs.only Q2) ⟨by rfl, by rfl, by rfl, trivial⟩ ⟨by rfl, trivial⟩ ?_ ?_
    ·
     show (m - 1).toNat < m.toNat
     omega
    ·
     refine ⟨by omega, by omega, ?_⟩
     exact NetAt.mono (by assumption) Q7 Q7
 ·
  replace h1 := of_decide_eq_false h1
  refine WC.exit ?_
  refine At.thenexit ?_
  refine At.thenexit ?_
  refine At.blockexit ?_
  refine At.then_ ?_
  refine WC.seq ?_
  refine WL.p Q0 (Yl.loadAB agg30 Q0 hs Q1 Q0 Q0) ?_
  refine WL.s (Yr.storeB hs Q0 Q0 Q0 Q5 Q3 Q0 (by exact szf30)) ?_
  clear hs; rintro _ w hs
  refine WL.next ?_
  refine WC.ret ?_
  refine fin1c rfl agg30 Q0 hs Q1 Q0 ?_
  refine RetD.mk hs Q1 ?_
  refine ⟨q, rfl, trivial, ?_, ?_⟩
  ·
   exact NetAt.mono hJ3 Q7 Q7
  ·
   exact hs.freshD (x := q) (F := F) Q2

theorem c_spec_l10Any (c : Nat) (b_ : Sl UInt8) (w : World)   (h_c : CurAt 205 b_ c w) (hb_c : CurB w b_ c) : Calls Tryz.prog 159 [bp c 0].toArray w (RetD 205 b_ c w (fun v w' => ∃ (x : TResponse), v = .agg (Ph.enc x).toArray ∧ (Ph.ok w' x) ∧ (x.size ≤ 1500) ∧ True)) := by
 refine enterN 46 Tryz.func159 rfl rfl rfl ?_
 have hs := Sat.startC h_c
 refine WC.seq ?_
 refine WL.r Q0 (Yr.alloc hs zt72) ?_
 clear hs; rintro _ w ⟨b1, rfl, hb, hs⟩; clear hb
 refine WL.next ?_
 refine WC.seq ?_
 refine Qm ?_
 refine Qm ?_
 refine WL.calld hs (T := 205) (b := b_) (c := c) Q2 Q0 (Yc.func Q0 fn118) (c_spec_l1Below c b_ _ _ (hs.cur Q1) (Apart.now hb_c hs)) ?_
 clear hs; intro v w ho hR hs
 obtain ⟨x2, rfl, hokx2, hx2, hf2⟩ := hR
 clear ho hf2
 replace hx2 : 0 ≤ x2 ∧ x2 < 5 := ⟨hx2.1, hx2.2.2 (by decide)⟩
 refine WL.p Q0 (Yl.add Q0 Q0 (by first | omega | (simp only [List.length_cons, List.length_nil] at *; omega))) ?_
 refine WL.calld hs (T := 205) (b := b_) (c := c) Q2 Q0 (Yc.func Q0 fn158) (c_spec_l10Response c b_ _ _ (show WfI _ from ⟨by omega, by omega⟩) (hs.cur Q1) (Apart.now hb_c hs)) ?_
 clear hs; intro v w ho hR hs
 obtain ⟨x3, rfl, hokx3, hx3, hf3⟩ := hR
 clear ho hf3
 have hn3 := hx3.1
 simp only [TResponse.size] at hn3
 refine WL.r Q0 (Yr.alloc hs zt72) ?_
 clear hs; rintro _ w ⟨b4, rfl, hb, hs⟩; clear hb
 refine WL.s (Yr.storeB hs Q0 Q0 Q0 Q5 Q3 Q0 (by exact szf72)) ?_
 clear hs; rintro _ w hs
 refine WL.next ?_
 refine WC.seq' ?_
 refine WC.seq ?_
 refine Qm ?_
 refine WL.calld hs (T := 205) (b := b_) (c := c) Q2 Q0 (Yc.func Q0 fn118) (c_spec_l1Below c b_ _ _ (hs.cur Q1) (Apart.now hb_c hs)) ?_
 clear hs; intro v w ho hR hs
 obtain ⟨x5, rfl, hokx5, hx5, hf5⟩ := hR
 clear ho hf5
 replace hx5 : 0 ≤ x5 ∧ x5 < 12 := ⟨hx5.1, hx5.2.2 (by decide)⟩
 refine WL.next ?_
 refine WC.block ?_
 refine WC.seq ?_
 refine WL.p Q0 (Yl.eqi Q0 Q0) ?_
 refine Qa ?_
 refine WL.next ?_
 refine WC.condS Q0 (fun h1 => ?_) (fun h1 => ?_)
 ·
  replace h1 := of_decide_eq_true h1
  refine WC.region ?_
  refine Qm ?_
  refine WL.r Q0 (Yr.buildSlice hs sll62 Q0 Q0 Q0 Q4 Q0) ?_
  clear hs; rintro _ w ⟨b6, rfl, hb, hs⟩; clear hb
  replace hs := Sat.boxow (l := ([99, 100, 404, 599, 600] : List Int)) (hs.sel (D := [box b6 _ _]) Q2) rfl rfl (by decide) (ownL_mk_flat (lit_int Q0))
  try simp only [List.cons_append, List.nil_append] at hs
  refine WL.calld hs (T := 205) (b := b_) (c := c) Q2 Q0 (Yc.func Q0 fn88) (c_spec_l1Int c b_ (⟨[99, 100, 404, 599, 600], some ⟨b6, 0, none⟩, 5⟩ : Sl Int) _ (Apart.own (s := (⟨[99, 100, 404, 599, 600], some ⟨b6, 0, none⟩, 5⟩ : Sl Int)) (F := [b6]) hs Q2) (by exact Nat.succ_pos _) (hs.cur Q1) (Apart.now hb_c hs)) ?_
  clear hs; intro v w ho hR hs
  obtain ⟨x7, rfl, hokx7, hx7, hf7⟩ := hR
  clear ho hf7
  replace hx7 : x7 ∈ ([99, 100, 404, 599, 600] : List Int) := hx7
  have hn7 := mem_int (99) (600) hx7 Q0
  refine WL.p Q0 (Yl.fieldAddr fa72_0 Q0) ?_
  refine WL.s (Yr.storeB hs Q0 Q0 Q0 Q5 Q3 Q0 (by exact szf3)) ?_
  clear hs; rintro _ w hs
  refine WL.nil ?_
  refine At.blocknormal ?_
  refine At.then_ ?_
  refine WC.seq ?_
  refine WL.p Q0 (Yl.loadAB agg72 Q0 hs Q1 Q0 Q0) ?_
  refine WL.s (Yr.storeB hs Q0 Q0 Q0 Q5 Q3 Q0 (by exact szf72)) ?_
  clear hs; rintro _ w hs
  refine WL.next ?_
  refine WC.ret ?_
  refine fin1c rfl agg72 Q0 hs Q1 Q0 ?_
  refine RetD.mk hs Q1 ?_
  refine ⟨(⟨x7, x3.kind, x3.body, x3.age, x3.shares, x3.policy⟩ : TResponse), rfl, ⟨(by first | exact (Flat.any hokx7) | trivial | assumption | exact Flat.any (by assumption) | exact ⟨by omega, by omega⟩ | (show WfS _; unfold WfS; omega) | (show WfS _; unfold WfS; simp only [List.length_append, List.length_cons, List.length_nil] at *; omega) | (refine Ph.old ?_ hs; assumption)), (by first | exact (Flat.any hokx3).kind | trivial | assumption | exact Flat.any (by assumption) | exact ⟨by omega, by omega⟩ | (show WfS _; unfold WfS; omega) | (show WfS _; unfold WfS; simp only [List.length_append, List.length_cons, List.length_nil] at *; omega) | (refine Ph.old ?_ hs; assumption)), (by first | exact (Flat.any hokx3).body | trivial | assumption | exact Flat.any (by assumption) | exact ⟨by omega, by omega⟩ | (show WfS _; unfold WfS; omega) | (show WfS _; unfold WfS; simp only [List.length_append, List.length_cons, List.length_nil] at *; omega) | (refine Ph.old ?_ hs; assumption)), (by first | exact (Flat.any hokx3).age | trivial | assumption | exact Flat.any (by assumption) | exact ⟨by omega, by omega⟩ | (show WfS _; unfold WfS; omega) | (show WfS _; unfold WfS; simp only [List.length_append, List.length_cons, List.length_nil] at *; omega) | (refine Ph.old ?_ hs; assumption)), (by first | exact (Flat.any hokx3).shares | trivial | assumption | exact Flat.any (by assumption) | exact ⟨by omega, by omega⟩ | (show WfS _; unfold WfS; omega) | (show WfS _; unfold WfS; simp only [List.length_append, List.length_cons, List.length_nil] at *; omega) | (refine Ph.old ?_ hs; assumption)), (by first | exact (Flat.any hokx3).policy | trivial | assumption | exact Flat.any (by assumption) | exact ⟨by omega, by omega⟩ | (show WfS _; unfold WfS; omega) | (show WfS _; unfold WfS; simp only [List.length_append, List.length_cons, List.length_nil] at *; omega) | (refine Ph.old ?_ hs; assumption))⟩, ?_, ?_⟩
  ·
   repeat' apply And.intro
   all_goals (try dsimp only)
   all_goals first | trivial | assumption | omega | ((try simp only [List.length_append, List.length_cons, List.length_nil, lsz_app, lsz_one, lsz_cons, lsz_nil, TAddr.size, TResponse.size, TRequest.size, TPolicy.size, TEntry.size, TCache.size, strsz, TLine.size, TSent.size, TServer.size, TFile.size, List.map_append, List.map_cons, List.map_nil, PServer.lg, PPolicy.lg, PCache.lg] at *); first | omega | assumption)
  ·
   trivial
 ·
  replace h1 := of_decide_eq_false h1
  refine WC.seq ?_
  refine WL.p Q0 (Yl.eqi Q0 Q0) ?_
  refine Qa ?_
  refine WL.next ?_
  refine WC.condS Q0 (fun h2 => ?_) (fun h2 => ?_)
  ·
   replace h2 := of_decide_eq_true h2
   refine WC.region ?_
   refine Qm ?_
   refine WL.r Q0 (Yr.buildSlice hs sll62 Q0 Q0 Q0 Q4 Q0) ?_
   clear hs; rintro _ w ⟨b8, rfl, hb, hs⟩; clear hb
   replace hs := Sat.boxow (l := ([0, 6] : List Int)) (hs.sel (D := [box b8 _ _]) Q2) rfl rfl (by decide) (ownL_mk_flat (lit_int Q0))
   try simp only [List.cons_append, List.nil_append] at hs
   refine WL.calld hs (T := 205) (b := b_) (c := c) Q2 Q0 (Yc.func Q0 fn88) (c_spec_l1Int c b_ (⟨[0, 6], some ⟨b8, 0, none⟩, 2⟩ : Sl Int) _ (Apart.own (s := (⟨[0, 6], some ⟨b8, 0, none⟩, 2⟩ : Sl Int)) (F := [b8]) hs Q2) (by exact Nat.succ_pos _) (hs.cur Q1) (Apart.now hb_c hs)) ?_
   clear hs; intro v w ho hR hs
   obtain ⟨x9, rfl, hokx9, hx9, hf9⟩ := hR
   clear ho hf9
   replace hx9 : x9 ∈ ([0, 6] : List Int) := hx9
   have hn9 := mem_int (0) (6) hx9 Q0
   refine WL.p Q0 (Yl.fieldAddr fa72_1 Q0) ?_
   refine WL.s (Yr.storeB hs Q0 Q0 Q0 Q5 Q3 Q0 (by exact szf3)) ?_
   clear hs; rintro _ w hs
   refine WL.nil ?_
   refine At.blocknormal ?_
   refine At.then_ ?_
   refine WC.seq ?_
   refine WL.p Q0 (Yl.loadAB agg72 Q0 hs Q1 Q0 Q0) ?_
   refine WL.s (Yr.storeB hs Q0 Q0 Q0 Q5 Q3 Q0 (by exact szf72)) ?_
   clear hs; rintro _ w hs
   refine WL.next ?_
   refine WC.ret ?_
   refine fin1c rfl agg72 Q0 hs Q1 Q0 ?_
   refine RetD.mk hs Q1 ?_
   refine ⟨(⟨x3.status, x9, x3.body, x3.age, x3.shares, x3.policy⟩ : TResponse), rfl, ⟨(by first | exact (Flat.any hokx3).status | trivial | assumption | exact Flat.any (by assumption) | exact ⟨by omega, by omega⟩ | (show WfS _; unfold WfS; omega) | (show WfS _; unfold WfS; simp only [List.length_append, List.length_cons, List.length_nil] at *; omega) | (refine Ph.old ?_ hs; assumption)), (by first | exact (Flat.any hokx9) | trivial | assumption | exact Flat.any (by assumption) | exact ⟨by omega, by omega⟩ | (show WfS _; unfold WfS; omega) | (show WfS _; unfold WfS; simp only [List.length_append, List.length_cons, List.length_nil] at *; omega) | (refine Ph.old ?_ hs; assumption)), (by first | exact (Flat.any hokx3).body | trivial | assumption | exact Flat.any (by assumption) | exact ⟨by omega, by omega⟩ | (show WfS _; unfold WfS; omega) | (show WfS _; unfold WfS; simp only [List.length_append, List.length_cons, List.length_nil] at *; omega) | (refine Ph.old ?_ hs; assumption)), (by first | exact (Flat.any hokx3).age | trivial | assumption | exact Flat.any (by assumption) | exact ⟨by omega, by omega⟩ | (show WfS _; unfold WfS; omega) | (show WfS _; unfold WfS; simp only [List.length_append, List.length_cons, List.length_nil] at *; omega) | (refine Ph.old ?_ hs; assumption)), (by first | exact (Flat.any hokx3).shares | trivial | assumption | exact Flat.any (by assumption) | exact ⟨by omega, by omega⟩ | (show WfS _; unfold WfS; omega) | (show WfS _; unfold WfS; simp only [List.length_append, List.length_cons, List.length_nil] at *; omega) | (refine Ph.old ?_ hs; assumption)), (by first | exact (Flat.any hokx3).policy | trivial | assumption | exact Flat.any (by assumption) | exact ⟨by omega, by omega⟩ | (show WfS _; unfold WfS; omega) | (show WfS _; unfold WfS; simp only [List.length_append, List.length_cons, List.length_nil] at *; omega) | (refine Ph.old ?_ hs; assumption))⟩, ?_, ?_⟩
   ·
    repeat' apply And.intro
    all_goals (try dsimp only)
    all_goals first | trivial | assumption | omega | ((try simp only [List.length_append, List.length_cons, List.length_nil, lsz_app, lsz_one, lsz_cons, lsz_nil, TAddr.size, TResponse.size, TRequest.size, TPolicy.size, TEntry.size, TCache.size, strsz, TLine.size, TSent.size, TServer.size, TFile.size, List.map_append, List.map_cons, List.map_nil, PServer.lg, PPolicy.lg, PCache.lg] at *); first | omega | assumption)
   ·
    trivial
  ·
   replace h2 := of_decide_eq_false h2
   refine WC.seq ?_
   refine WL.p Q0 (Yl.eqi Q0 Q0) ?_
   refine Qa ?_
   refine WL.next ?_
   refine WC.condS Q0 (fun h3 => ?_) (fun h3 => ?_)
   ·
    replace h3 := of_decide_eq_true h3
    refine WC.region ?_
    refine Qm ?_
    refine WL.r Q0 (Yr.buildSlice hs sll62 Q0 Q0 Q0 Q4 Q0) ?_
    clear hs; rintro _ w ⟨b10, rfl, hb, hs⟩; clear hb
    replace hs := Sat.boxow (l := ([(-1), 1000, 1001] : List Int)) (hs.sel (D := [box b10 _ _]) Q2) rfl rfl (by decide) (ownL_mk_flat (lit_int Q0))
    try simp only [List.cons_append, List.nil_append] at hs
    refine WL.calld hs (T := 205) (b := b_) (c := c) Q2 Q0 (Yc.func Q0 fn88) (c_spec_l1Int c b_ (⟨[(-1), 1000, 1001], some ⟨b10, 0, none⟩, 3⟩ : Sl Int) _ (Apart.own (s := (⟨[(-1), 1000, 1001], some ⟨b10, 0, none⟩, 3⟩ : Sl Int)) (F := [b10]) hs Q2) (by exact Nat.succ_pos _) (hs.cur Q1) (Apart.now hb_c hs)) ?_
    clear hs; intro v w ho hR hs
    obtain ⟨x11, rfl, hokx11, hx11, hf11⟩ := hR
    clear ho hf11
    replace hx11 : x11 ∈ ([(-1), 1000, 1001] : List Int) := hx11
    have hn11 := mem_int (-1) (1001) hx11 Q0
    refine WL.p Q0 (Yl.fieldAddr fa72_3 Q0) ?_
    refine WL.s (Yr.storeB hs Q0 Q0 Q0 Q5 Q3 Q0 (by exact szf3)) ?_
    clear hs; rintro _ w hs
    refine WL.nil ?_
    refine At.blocknormal ?_
    refine At.then_ ?_
    refine WC.seq ?_
    refine WL.p Q0 (Yl.loadAB agg72 Q0 hs Q1 Q0 Q0) ?_
    refine WL.s (Yr.storeB hs Q0 Q0 Q0 Q5 Q3 Q0 (by exact szf72)) ?_
    clear hs; rintro _ w hs
    refine WL.next ?_
    refine WC.ret ?_
    refine fin1c rfl agg72 Q0 hs Q1 Q0 ?_
    refine RetD.mk hs Q1 ?_
    refine ⟨(⟨x3.status, x3.kind, x3.body, x11, x3.shares, x3.policy⟩ : TResponse), rfl, ⟨(by first | exact (Flat.any hokx3).status | trivial | assumption | exact Flat.any (by assumption) | exact ⟨by omega, by omega⟩ | (show WfS _; unfold WfS; omega) | (show WfS _; unfold WfS; simp only [List.length_append, List.length_cons, List.length_nil] at *; omega) | (refine Ph.old ?_ hs; assumption)), (by first | exact (Flat.any hokx3).kind | trivial | assumption | exact Flat.any (by assumption) | exact ⟨by omega, by omega⟩ | (show WfS _; unfold WfS; omega) | (show WfS _; unfold WfS; simp only [List.length_append, List.length_cons, List.length_nil] at *; omega) | (refine Ph.old ?_ hs; assumption)), (by first | exact (Flat.any hokx3).body | trivial | assumption | exact Flat.any (by assumption) | exact ⟨by omega, by omega⟩ | (show WfS _; unfold WfS; omega) | (show WfS _; unfold WfS; simp only [List.length_append, List.length_cons, List.length_nil] at *; omega) | (refine Ph.old ?_ hs; assumption)), (by first | exact (Flat.any hokx11) | trivial | assumption | exact Flat.any (by assumption) | exact ⟨by omega, by omega⟩ | (show WfS _; unfold WfS; omega) | (show WfS _; unfold WfS; simp only [List.length_append, List.length_cons, List.length_nil] at *; omega) | (refine Ph.old ?_ hs; assumption)), (by first | exact (Flat.any hokx3).shares | trivial | assumption | exact Flat.any (by assumption) | exact ⟨by omega, by omega⟩ | (show WfS _; unfold WfS; omega) | (show WfS _; unfold WfS; simp only [List.length_append, List.length_cons, List.length_nil] at *; omega) | (refine Ph.old ?_ hs; assumption)), (by first | exact (Flat.any hokx3).policy | trivial | assumption | exact Flat.any (by assumption) | exact ⟨by omega, by omega⟩ | (show WfS _; unfold WfS; omega) | (show WfS _; unfold WfS; simp only [List.length_append, List.length_cons, List.length_nil] at *; omega) | (refine Ph.old ?_ hs; assumption))⟩, ?_, ?_⟩
    ·
     repeat' apply And.intro
     all_goals (try dsimp only)
     all_goals first | trivial | assumption | omega | ((try simp only [List.length_append, List.length_cons, List.length_nil, lsz_app, lsz_one, lsz_cons, lsz_nil, TAddr.size, TResponse.size, TRequest.size, TPolicy.size, TEntry.size, TCache.size, strsz, TLine.size, TSent.size, TServer.size, TFile.size, List.map_append, List.map_cons, List.map_nil, PServer.lg, PPolicy.lg, PCache.lg] at *); first | omega | assumption)
    ·
     trivial
   ·
    replace h3 := of_decide_eq_false h3
    refine WC.seq ?_
    refine WL.p Q0 (Yl.eqi Q0 Q0) ?_
    refine Qa ?_
    refine WL.next ?_
    refine WC.condS Q0 (fun h4 => ?_) (fun h4 => ?_)
    ·
     replace h4 := of_decide_eq_true h4
     refine WC.region ?_
     refine Qm ?_
     refine WL.r Q0 (Yr.buildSlice hs sll34 Q0 Q0 Q0 Q4 Q0) ?_
     clear hs; rintro _ w ⟨b12, rfl, hb, hs⟩; clear hb
     replace hs := Sat.boxow (l := ([([120] : Str), ([115, 99, 114, 105, 112, 116, 59, 115, 116, 121, 108, 101, 59, 105, 109, 103] : Str)] : List Str)) (hs.sel (D := [box b12 _ _]) Q2) rfl rfl (by decide) (ownL_mk_flat (lit_str Q0))
     try simp only [List.cons_append, List.nil_append] at hs
     refine WL.calld hs (T := 205) (b := b_) (c := c) Q2 Q0 (Yc.func Q0 fn102) (c_spec_l1Str c b_ (⟨[([120] : Str), ([115, 99, 114, 105, 112, 116, 59, 115, 116, 121, 108, 101, 59, 105, 109, 103] : Str)], some ⟨b12, 0, none⟩, 2⟩ : Sl Str) _ (Apart.own (s := (⟨[([120] : Str), ([115, 99, 114, 105, 112, 116, 59, 115, 116, 121, 108, 101, 59, 105, 109, 103] : Str)], some ⟨b12, 0, none⟩, 2⟩ : Sl Str)) (F := [b12]) hs Q2) (by exact Nat.succ_pos _) (hs.cur Q1) (Apart.now hb_c hs)) ?_
     clear hs; intro v w ho hR hs
     obtain ⟨x13, rfl, hokx13, hx13, hf13⟩ := hR
     clear ho hf13
     replace hx13 : x13 ∈ ([([120] : Str), ([115, 99, 114, 105, 112, 116, 59, 115, 116, 121, 108, 101, 59, 105, 109, 103] : Str)] : List Str) := hx13
     have hn13 := mem_len 16 hx13 Q0
     refine WL.p Q0 (Yl.fieldAddr fa72_5 Q0) ?_
     refine WL.s (Yr.storeB hs Q0 Q0 Q0 Q5 Q3 Q0 (by exact szf9)) ?_
     clear hs; rintro _ w hs
     refine WL.nil ?_
     refine At.blocknormal ?_
     refine At.then_ ?_
     refine WC.seq ?_
     refine WL.p Q0 (Yl.loadAB agg72 Q0 hs Q1 Q0 Q0) ?_
     refine WL.s (Yr.storeB hs Q0 Q0 Q0 Q5 Q3 Q0 (by exact szf72)) ?_
     clear hs; rintro _ w hs
     refine WL.next ?_
     refine WC.ret ?_
     refine fin1c rfl agg72 Q0 hs Q1 Q0 ?_
     refine RetD.mk hs Q1 ?_
     refine ⟨(⟨x3.status, x3.kind, x3.body, x3.age, x3.shares, x13⟩ : TResponse), rfl, ⟨(by first | exact (Flat.any hokx3).status | trivial | assumption | exact Flat.any (by assumption) | exact ⟨by omega, by omega⟩ | (show WfS _; unfold WfS; omega) | (show WfS _; unfold WfS; simp only [List.length_append, List.length_cons, List.length_nil] at *; omega) | (refine Ph.old ?_ hs; assumption)), (by first | exact (Flat.any hokx3).kind | trivial | assumption | exact Flat.any (by assumption) | exact ⟨by omega, by omega⟩ | (show WfS _; unfold WfS; omega) | (show WfS _; unfold WfS; simp only [List.length_append, List.length_cons, List.length_nil] at *; omega) | (refine Ph.old ?_ hs; assumption)), (by first | exact (Flat.any hokx3).body | trivial | assumption | exact Flat.any (by assumption) | exact ⟨by omega, by omega⟩ | (show WfS _; unfold WfS; omega) | (show WfS _; unfold WfS; simp only [List.length_append, List.length_cons, List.length_nil] at *; omega) | (refine Ph.old ?_ hs; assumption)), (by first | exact (Flat.any hokx3).age | trivial | assumption | exact Flat.any (by assumption) | exact ⟨by omega, by omega⟩ | (show WfS _; unfold WfS; omega) | (show WfS _; unfold WfS; simp only [List.length_append, List.length_cons, List.length_nil] at *; omega) | (refine Ph.old ?_ hs; assumption)), (by first | exact (Flat.any hokx3).shares | trivial | assumption | exact Flat.any (by assumption) | exact ⟨by omega, by omega⟩ | (show WfS _; unfold WfS; omega) | (show WfS _; unfold WfS; simp only [List.length_append, List.length_cons, List.length_nil] at *; omega) | (refine Ph.old ?_ hs; assumption)), (by first | exact (Flat.any hokx13) | trivial | assumption | exact Flat.any (by assumption) | exact ⟨by omega, by omega⟩ | (show WfS _; unfold WfS; omega) | (show WfS _; unfold WfS; simp only [List.length_append, List.length_cons, List.length_nil] at *; omega) | (refine Ph.old ?_ hs; assumption))⟩, ?_, ?_⟩
     ·
      repeat' apply And.intro
      all_goals (try dsimp only)
      all_goals first | trivial | assumption | omega | ((try simp only [List.length_append, List.length_cons, List.length_nil, lsz_app, lsz_one, lsz_cons, lsz_nil, TAddr.size, TResponse.size, TRequest.size, TPolicy.size, TEntry.size, TCache.size, strsz, TLine.size, TSent.size, TServer.size, TFile.size, List.map_append, List.map_cons, List.map_nil, PServer.lg, PPolicy.lg, PCache.lg] at *); first | omega | assumption)
     ·
      trivial
    ·
     replace h4 := of_decide_eq_false h4
     refine WC.seq ?_
     refine WL.p Q0 (Yl.eqi Q0 Q0) ?_
     refine Qa ?_
     refine WL.next ?_
     refine WC.condS Q0 (fun h5 => ?_) (fun h5 => ?_)
     ·
      replace h5 := of_decide_eq_true h5
      refine WC.block ?_
      refine WC.loopC (ι := Str) (fun t => 400 - t.length) (fun t => []) (fun t => [box b4 72 [I x3.status, I x3.kind, S t, I x3.age, Bo x3.shares, S x3.policy]]) (fun t => t.length ≤ 700) [(0, _), (2, _), (3, _), (10, _), (11, _), (17, _), (23, _), (29, _), (35, _)] x3.body (hs.sel (D := [box b4 72 _]) Q2) ⟨by rfl, by rfl, by rfl, by rfl, by rfl, by rfl, by rfl, by rfl, by rfl, trivial⟩ trivial ?_ ?_
      ·
       show x3.body.length ≤ 700
       omega
      clear hs; rintro t w hJ hs
      simp only [List.cons_append, List.nil_append] at hs
      refine WC.seq' ?_
      refine WC.seq ?_
      refine WL.p Q0 (Yl.fieldAddr fa72_2 Q0) ?_
      refine WL.p Q0 (Yl.loadB sca9 Q0 hs Q1 Q0) ?_
      refine WL.p Q0 (Yl.len_str str9 Q0) ?_
      refine WL.p Q0 (Yl.lss Q0 Q0) ?_
      refine WL.next ?_
      refine WC.condS Q0 (fun h6 => ?_) (fun h6 => ?_)
      ·
       replace h6 := of_decide_eq_true h6
       skip
       refine WC.skipn ?_
       refine WC.block ?_
       refine WC.region ?_
       refine WL.p Q0 (Yl.fieldAddr fa72_2 Q0) ?_
       refine WL.p Q0 (Yl.loadB sca9 Q0 hs Q1 Q0) ?_
       refine WL.p Q0 (Yl.cat Q0 Q0 (by first | omega | (simp only [List.length_cons, List.length_nil] at *; omega))) ?_
       refine WL.p Q0 (Yl.fieldAddr fa72_2 Q0) ?_
       refine WL.s (Yr.storeB hs Q0 Q0 Q0 Q5 Q3 Q0 (by exact szf9)) ?_
       clear hs; rintro _ w hs
       refine WL.nil ?_
       refine At.blocknormal ?_
       refine At.roundC _ (hs.only Q2) ⟨by rfl, by rfl, by rfl, by rfl, by rfl, by rfl, by rfl, by rfl, by rfl, trivial⟩ trivial ?_ ?_
       ·
        simp only [List.length_append, List.length_cons, List.length_nil]; omega
       ·
        simp only [List.length_append, List.length_cons, List.length_nil]; omega
      ·
       replace h6 := of_decide_eq_false h6
       refine WC.exit ?_
       refine At.thenexit ?_
       refine At.thenexit ?_
       refine At.blockexit ?_
       refine At.blocknormal ?_
       refine At.then_ ?_
       refine WC.seq ?_
       refine WL.p Q0 (Yl.loadAB agg72 Q0 hs Q1 Q0 Q0) ?_
       refine WL.s (Yr.storeB hs Q0 Q0 Q0 Q5 Q3 Q0 (by exact szf72)) ?_
       clear hs; rintro _ w hs
       refine WL.next ?_
       refine WC.ret ?_
       refine fin1c rfl agg72 Q0 hs Q1 Q0 ?_
       refine RetD.mk hs Q1 ?_
       refine ⟨(⟨x3.status, x3.kind, t, x3.age, x3.shares, x3.policy⟩ : TResponse), rfl, ⟨(by first | exact (Flat.any hokx3).status | trivial | assumption | exact Flat.any (by assumption) | exact ⟨by omega, by omega⟩ | (show WfS _; unfold WfS; omega) | (show WfS _; unfold WfS; simp only [List.length_append, List.length_cons, List.length_nil] at *; omega) | (refine Ph.old ?_ hs; assumption)), (by first | exact (Flat.any hokx3).kind | trivial | assumption | exact Flat.any (by assumption) | exact ⟨by omega, by omega⟩ | (show WfS _; unfold WfS; omega) | (show WfS _; unfold WfS; simp only [List.length_append, List.length_cons, List.length_nil] at *; omega) | (refine Ph.old ?_ hs; assumption)), (by first | exact (show WfS t from by unfold WfS; omega) | trivial | assumption | exact Flat.any (by assumption) | exact ⟨by omega, by omega⟩ | (show WfS _; unfold WfS; omega) | (show WfS _; unfold WfS; simp only [List.length_append, List.length_cons, List.length_nil] at *; omega) | (refine Ph.old ?_ hs; assumption)), (by first | exact (Flat.any hokx3).age | trivial | assumption | exact Flat.any (by assumption) | exact ⟨by omega, by omega⟩ | (show WfS _; unfold WfS; omega) | (show WfS _; unfold WfS; simp only [List.length_append, List.length_cons, List.length_nil] at *; omega) | (refine Ph.old ?_ hs; assumption)), (by first | exact (Flat.any hokx3).shares | trivial | assumption | exact Flat.any (by assumption) | exact ⟨by omega, by omega⟩ | (show WfS _; unfold WfS; omega) | (show WfS _; unfold WfS; simp only [List.length_append, List.length_cons, List.length_nil] at *; omega) | (refine Ph.old ?_ hs; assumption)), (by first | exact (Flat.any hokx3).policy | trivial | assumption | exact Flat.any (by assumption) | exact ⟨by omega, by omega⟩ | (show WfS _; unfold WfS; omega) | (show WfS _; unfold WfS; simp only [List.length_append, List.length_cons, List.length_nil] at *; omega) | (refine Ph.old ?_ hs; assumption))⟩, ?_, ?_⟩
       ·
        repeat' apply And.intro
        all_goals (try dsimp only)
        all_goals first | trivial | assumption | omega | ((try simp only [List.length_append, List.length_cons, List.length_nil, lsz_app, lsz_one, lsz_cons, lsz_nil, TAddr.size, TResponse.size, TRequest.size, TPolicy.size, TEntry.size, TCache.size, strsz, TLine.size, TSent.size, TServer.size, TFile.size, List.map_append, List.map_cons, List.map_nil, PServer.lg, PPolicy.lg, PCache.lg] at *); first | omega | assumption)
       ·
        trivial
     ·
      replace h5 := of_decide_eq_false h5
      refine WC.skip ?_
      refine At.blocknormal ?_
      refine At.then_ ?_
      refine WC.seq ?_
      refine WL.p Q0 (Yl.loadAB agg72 Q0 hs Q1 Q0 Q0) ?_
      refine WL.s (Yr.storeB hs Q0 Q0 Q0 Q5 Q3 Q0 (by exact szf72)) ?_
      clear hs; rintro _ w hs
      refine WL.next ?_
      refine WC.ret ?_
      refine fin1c rfl agg72 Q0 hs Q1 Q0 ?_
      refine RetD.mk hs Q1 ?_
      refine ⟨(⟨x3.status, x3.kind, x3.body, x3.age, x3.shares, x3.policy⟩ : TResponse), rfl, ⟨(by first | exact (Flat.any hokx3).status | trivial | assumption | exact Flat.any (by assumption) | exact ⟨by omega, by omega⟩ | (show WfS _; unfold WfS; omega) | (show WfS _; unfold WfS; simp only [List.length_append, List.length_cons, List.length_nil] at *; omega) | (refine Ph.old ?_ hs; assumption)), (by first | exact (Flat.any hokx3).kind | trivial | assumption | exact Flat.any (by assumption) | exact ⟨by omega, by omega⟩ | (show WfS _; unfold WfS; omega) | (show WfS _; unfold WfS; simp only [List.length_append, List.length_cons, List.length_nil] at *; omega) | (refine Ph.old ?_ hs; assumption)), (by first | exact (Flat.any hokx3).body | trivial | assumption | exact Flat.any (by assumption) | exact ⟨by omega, by omega⟩ | (show WfS _; unfold WfS; omega) | (show WfS _; unfold WfS; simp only [List.length_append, List.length_cons, List.length_nil] at *; omega) | (refine Ph.old ?_ hs; assumption)), (by first | exact (Flat.any hokx3).age | trivial | assumption | exact Flat.any (by assumption) | exact ⟨by omega, by omega⟩ | (show WfS _; unfold WfS; omega) | (show WfS _; unfold WfS; simp only [List.length_append, List.length_cons, List.length_nil] at *; omega) | (refine Ph.old ?_ hs; assumption)), (by first | exact (Flat.any hokx3).shares | trivial | assumption | exact Flat.any (by assumption) | exact ⟨by omega, by omega⟩ | (show WfS _; unfold WfS; omega) | (show WfS _; unfold WfS; simp only [List.length_append, List.length_cons, List.length_nil] at *; omega) | (refine Ph.old ?_ hs; assumption)), (by first | exact (Flat.any hokx3).policy | trivial | assumption | exact Flat.any (by assumption) | exact ⟨by omega, by omega⟩ | (show WfS _; unfold WfS; omega) | (show WfS _; unfold WfS; simp only [List.length_append, List.length_cons, List.length_nil] at *; omega) | (refine Ph.old ?_ hs; assumption))⟩, ?_, ?_⟩
      ·
       repeat' apply And.intro
       all_goals (try dsimp only)
       all_goals first | trivial | assumption | omega | ((try simp only [List.length_append, List.length_cons, List.length_nil, lsz_app, lsz_one, lsz_cons, lsz_nil, TAddr.size, TResponse.size, TRequest.size, TPolicy.size, TEntry.size, TCache.size, strsz, TLine.size, TSent.size, TServer.size, TFile.size, List.map_append, List.map_cons, List.map_nil, PServer.lg, PPolicy.lg, PCache.lg] at *); first | omega | assumption)
      ·
       trivial

set_option maxRecDepth 20000 in
theorem c_spec_l12Any (c : Nat) (b_ : Sl UInt8) (w : World)   (h_c : CurAt 205 b_ c w) (hb_c : CurB w b_ c) : Calls Tryz.prog 174 [bp c 0].toArray w (RetD 205 b_ c w (fun v w' => ∃ (l : Sl PServer), v = l.v ∧ (True) ∧ (lsz TServer.size (l.l.map PServer.lg) ≤ 90000) ∧ Fresh w l w')) := by
 refine enterN 35 Tryz.func174 rfl rfl rfl ?_
 have hs := Sat.startC h_c
 refine WC.seq ?_
 refine Qa ?_
 refine WL.next ?_
 refine WC.seq ?_
 refine Qm ?_
 refine WL.calld hs (T := 205) (b := b_) (c := c) Q2 Q0 (Yc.func Q0 fn238) (c_spec_l12Servers c b_ _ (hs.cur Q1) (Apart.now hb_c hs)) ?_
 clear hs; intro v w ho hR hs
 obtain ⟨x1, rfl, _, hx1, hf1⟩ := hR
 obtain ⟨F1, hs⟩ := hs.addF ho hf1
 clear ho hf1
 obtain ⟨d0, hd0⟩ := exists_get (l := x1.l) (k := 0) Q7
 have hd0z : (PServer.lg d0).size ≤ 40000 := by
  have h9 := lsum_le (f := TServer.size) (List.mem_map.2 ⟨d0, List.mem_of_getElem? hd0, rfl⟩ : PServer.lg d0 ∈ x1.l.map PServer.lg)
  have h8 := hx1.1
  simp only [lsz] at h8; omega
 have hd0l : d0.files.l.length ≤ 40000 := by
  simp only [TServer.size, PServer.lg, lsz] at hd0z; omega
 have hl0l : x1.l.length ≤ 40000 := by
  have h8 := hx1.1
  simp only [lsz, List.length_map] at h8; omega
 refine Qa ?_
 refine WL.next ?_
 refine WC.seq' ?_
 refine WC.seq ?_
 refine Qm ?_
 refine WL.calld hs (T := 205) (b := b_) (c := c) Q2 Q0 (Yc.func Q0 fn118) (c_spec_l1Below c b_ _ _ (hs.cur Q1) (Apart.now hb_c hs)) ?_
 clear hs; intro v w ho hR hs
 obtain ⟨x2, rfl, hokx2, hx2, hf2⟩ := hR
 clear ho hf2
 replace hx2 : 0 ≤ x2 ∧ x2 < 12 := ⟨hx2.1, hx2.2.2 (by decide)⟩
 refine WL.next ?_
 refine WC.block ?_
 refine WC.seq ?_
 refine WL.p Q0 (Yl.eqi Q0 Q0) ?_
 refine Qa ?_
 refine WL.next ?_
 refine WC.condS Q0 (fun h1 => ?_) (fun h1 => ?_)
 ·
  replace h1 := of_decide_eq_true h1
  refine WC.region ?_
  refine Qm ?_
  refine Qm ?_
  refine WL.r Q0 (Yr.buildSlice hs sll34 Q0 Q0 Q0 Q4 Q0) ?_
  clear hs; rintro _ w ⟨b3, rfl, hb, hs⟩; clear hb
  replace hs := Sat.boxow (l := ([([104, 111, 109, 101] : Str), ([] : Str), ([109, 111, 114, 101] : Str)] : List Str)) (hs.sel (D := [box b3 _ _]) Q2) rfl rfl (by decide) (ownL_mk_flat (lit_str Q0))
  try simp only [List.cons_append, List.nil_append] at hs
  refine WL.calld hs (T := 205) (b := b_) (c := c) Q2 Q0 (Yc.func Q0 fn102) (c_spec_l1Str c b_ (⟨[([104, 111, 109, 101] : Str), ([] : Str), ([109, 111, 114, 101] : Str)], some ⟨b3, 0, none⟩, 3⟩ : Sl Str) _ (Apart.own (s := (⟨[([104, 111, 109, 101] : Str), ([] : Str), ([109, 111, 114, 101] : Str)], some ⟨b3, 0, none⟩, 3⟩ : Sl Str)) (F := [b3]) hs Q2) (by exact Nat.succ_pos _) (hs.cur Q1) (Apart.now hb_c hs)) ?_
  clear hs; intro v w ho hR hs
  obtain ⟨x4, rfl, hokx4, hx4, hf4⟩ := hR
  clear ho hf4
  replace hx4 : x4 ∈ ([([104, 111, 109, 101] : Str), ([] : Str), ([109, 111, 114, 101] : Str)] : List Str) := hx4
  have hn4 := mem_len 4 hx4 Q0
  refine WL.p Q0 (Yl.build bt216 Q0 Q4) ?_
  refine WL.r Q0 (Yr.buildSlice hs sll24 Q0 Q0 Q0 Q4 Q0) ?_
  clear hs; rintro _ w ⟨b5, rfl, hb, hs⟩; clear hb
  replace hs := Sat.nilsl (α := TFile) hs
  replace hs := PServer.join (⟨x4, ⟨[], none, 0⟩⟩ : PServer) (hs.sel (D := [ow (⟨[], none, 0⟩ : (Sl TFile)) []]) Q2) (by first | exact (Flat.any hokx4) | (refine Ph.old ?_ hs; assumption))
  try simp only [List.cons_append, List.nil_append] at hs
  refine WL.r Q0 (Yr.appendE (s := x1) (F := F1) (u := (⟨x4, ⟨[], none, 0⟩⟩ : PServer)) (G := []) hs elt24 Q2 Q0 Q0 (hs.box_cells Q1) (by first | (unfold maxLen; omega) | omega | ((try simp only [lsz, strsz, List.length_map, PCache.lg, TCache.size, PPolicy.lg, TPolicy.size, List.length_cons, List.length_nil] at *); first | (unfold maxLen; omega) | omega)) (by first | (unfold maxLen; omega) | omega | ((try simp only [lsz, strsz, List.length_map, PCache.lg, TCache.size, PPolicy.lg, TPolicy.size, List.length_cons, List.length_nil] at *); first | (unfold maxLen; omega) | omega))) ?_
  clear hs; rintro _ w ⟨s6, F6, rfl, hl6, hs⟩
  refine Qa ?_
  refine WL.nil ?_
  refine At.blocknormal ?_
  refine At.then_ ?_
  refine WC.seq ?_
  refine Qm ?_
  refine Qa ?_
  refine WL.next ?_
  refine WC.ret ?_
  refine fin1' rfl Q0 ?_
  refine RetD.mk hs Q1 ?_
  refine ⟨s6, rfl, trivial, ?_, ?_⟩
  ·
   repeat' apply And.intro
   all_goals (try dsimp only)
   all_goals first | trivial | assumption | omega | ((try simp only [List.length_append, List.length_cons, List.length_nil, lsz_app, lsz_one, lsz_cons, lsz_nil, TAddr.size, TResponse.size, TRequest.size, TPolicy.size, TEntry.size, TCache.size, strsz, TLine.size, TSent.size, TServer.size, TFile.size, List.map_append, List.map_cons, List.map_nil, PServer.lg, PPolicy.lg, PCache.lg, hl6] at *); first | omega | assumption)
  ·
   exact hs.freshD (x := s6) (F := F6) Q2
 ·
  replace h1 := of_decide_eq_false h1
  refine WC.seq ?_
  refine WL.p Q0 (Yl.eqi Q0 Q0) ?_
  refine Qa ?_
  refine WL.next ?_
  refine WC.condS Q0 (fun h2 => ?_) (fun h2 => ?_)
  ·
   replace h2 := of_decide_eq_true h2
   refine WC.anyX (K := [ow x1 F1]) mixed hs Q2 ?_
   clear hs; intro w hs
   refine WA.p (i := 0) Q0 Q6 Q6 Q6 Q0 (hs.only Q2) (fun w hs => Yl.move Q0) ?_
   refine WA.p (i := 1) Q0 Q6 Q6 Q6 Q0 (hs.only Q2) (fun w hs => Yl.move Q0) ?_
   have hadr600 := (Sl.Ok.at_ (hs.okow (x := x1) (F := F1) Q1) (hd0)).1
   refine WA.p (i := 2) Q0 Q6 Q6 Q6 Q0 (hs.only Q2) (fun w hs => Yl.indexAddrA slt24 Q0 Q0 hadr600 Q0 (hd0)) ?_
   refine WA.p (i := 3) Q0 Q6 Q6 Q6 Q0 (hs.only Q2) (fun w hs => Yl.fieldAddr fa216_1 Q0) ?_
   refine WA.p (i := 5) Q0 Q6 Q6 Q6 Q0 (hs.only Q2) (fun w hs => Yl.move Q0) ?_
   refine WA.p (i := 8) Q0 Q6 Q6 Q6 Q0 (hs.only Q2) (fun w hs => Yl.move Q0) ?_
   refine WA.two (i := 4) (j := 6) Q6 ?_ ?_
   ·
    refine WI.r (i := 4) Q0 Q0 (Yl.yr (Yl.loadC sca214 Q0 (Sl.Ok.at_ (hs.okow (x := x1) (F := F1) Q1) (by assumption)).2 Q0)) (by rintro _ _ ⟨rfl, rfl⟩; exact hs.only Q2) ?_
    rintro _ _ ⟨rfl, rfl⟩
    refine WA.r (i := 6) Q6 Q0 Q0 (Yr.buildSlice hs sll34 Q0 Q0 Q0 Q4 Q0) (by rintro _ w ⟨b7, rfl, hb, hs⟩; exact hs.only Q2) ?_
    clear hs; rintro _ w ⟨b7, rfl, hb, hs⟩; clear hb
    replace hs := Sat.boxow (l := ([([97, 112, 112] : Str), ([] : Str), ([122, 122, 122] : Str)] : List Str)) (hs.sel (D := [box b7 _ _]) Q2) rfl rfl (by decide) (ownL_mk_flat (lit_str Q0))
    try simp only [List.cons_append, List.nil_append] at hs
    refine WA.calld (i := 7) hs (T := 205) (b := b_) (c := c) Q2 (fun _ hs => hs.only Q2) Q6 Q0 Q0 (Yc.func Q0 fn102) (c_spec_l1Str c b_ (⟨[([97, 112, 112] : Str), ([] : Str), ([122, 122, 122] : Str)], some ⟨b7, 0, none⟩, 3⟩ : Sl Str) _ (Apart.own (s := (⟨[([97, 112, 112] : Str), ([] : Str), ([122, 122, 122] : Str)], some ⟨b7, 0, none⟩, 3⟩ : Sl Str)) (F := [b7]) hs Q2) (by exact Nat.succ_pos _) (hs.cur Q1) (Apart.now hb_c hs)) ?_
    clear hs; intro v w ho hR hs
    obtain ⟨x8, rfl, hokx8, hx8, hf8⟩ := hR
    clear ho hf8
    replace hx8 : x8 ∈ ([([97, 112, 112] : Str), ([] : Str), ([122, 122, 122] : Str)] : List Str) := hx8
    have hn8 := mem_len 3 hx8 Q0
    refine WA.calld (i := 9) hs (T := 205) (b := b_) (c := c) Q2 (fun _ hs => hs.only Q2) Q6 Q0 Q0 (Yc.func Q0 fn159) (c_spec_l10Any c b_ _ (hs.cur Q1) (Apart.now hb_c hs)) ?_
    clear hs; intro v w ho hR hs
    obtain ⟨x9, rfl, hokx9, hx9, hf9⟩ := hR
    clear ho hf9
    refine WA.p (i := 10) Q0 Q6 Q6 Q6 Q0 (hs.only Q2) (fun w hs => Yl.build bt219 Q0 Q4) ?_
    refine WA.r (i := 11) Q6 Q0 Q0 (Yr.buildSlice hs sll214 Q0 Q0 Q0 Q4 Q0) (by rintro _ w ⟨b10, rfl, hb, hs⟩; exact hs.only Q2) ?_
    clear hs; rintro _ w ⟨b10, rfl, hb, hs⟩; clear hb
    obtain ⟨G11, B11, hs⟩ := Sat.lend (hs.sel (D := [ow x1 F1]) Q2) hd0
    obtain ⟨K11, hfl11, hs⟩ := PServer.split hs
    try simp only [List.cons_append, List.nil_append] at hs
    refine WA.r (i := 12) Q6 Q0 Q0 (Yr.append (s := d0.files) (F := K11) hs elt214 Q2 Q0 Q0 rfl (xs := [(⟨x8, (⟨x9.status, x9.kind, x9.body, x9.age, x9.shares, x9.policy⟩ : TResponse)⟩ : TFile)]) (hs.box_cells Q1) (by intro x hx; obtain rfl := List.mem_singleton.1 hx; exact ⟨(by first | exact (Flat.any hokx8) | trivial | assumption | exact Flat.any (by assumption) | exact ⟨by omega, by omega⟩ | (show WfS _; unfold WfS; omega) | (show WfS _; unfold WfS; simp only [List.length_append, List.length_cons, List.length_nil] at *; omega) | (refine Ph.old ?_ hs; assumption)), ⟨(by first | exact (Flat.any hokx9).status | trivial | assumption | exact Flat.any (by assumption) | exact ⟨by omega, by omega⟩ | (show WfS _; unfold WfS; omega) | (show WfS _; unfold WfS; simp only [List.length_append, List.length_cons, List.length_nil] at *; omega) | (refine Ph.old ?_ hs; assumption)), (by first | exact (Flat.any hokx9).kind | trivial | assumption | exact Flat.any (by assumption) | exact ⟨by omega, by omega⟩ | (show WfS _; unfold WfS; omega) | (show WfS _; unfold WfS; simp only [List.length_append, List.length_cons, List.length_nil] at *; omega) | (refine Ph.old ?_ hs; assumption)), (by first | exact (Flat.any hokx9).body | trivial | assumption | exact Flat.any (by assumption) | exact ⟨by omega, by omega⟩ | (show WfS _; unfold WfS; omega) | (show WfS _; unfold WfS; simp only [List.length_append, List.length_cons, List.length_nil] at *; omega) | (refine Ph.old ?_ hs; assumption)), (by first | exact (Flat.any hokx9).age | trivial | assumption | exact Flat.any (by assumption) | exact ⟨by omega, by omega⟩ | (show WfS _; unfold WfS; omega) | (show WfS _; unfold WfS; simp only [List.length_append, List.length_cons, List.length_nil] at *; omega) | (refine Ph.old ?_ hs; assumption)), (by first | exact (Flat.any hokx9).shares | trivial | assumption | exact Flat.any (by assumption) | exact ⟨by omega, by omega⟩ | (show WfS _; unfold WfS; omega) | (show WfS _; unfold WfS; simp only [List.length_append, List.length_cons, List.length_nil] at *; omega) | (refine Ph.old ?_ hs; assumption)), (by first | exact (Flat.any hokx9).policy | trivial | assumption | exact Flat.any (by assumption) | exact ⟨by omega, by omega⟩ | (show WfS _; unfold WfS; omega) | (show WfS _; unfold WfS; simp only [List.length_append, List.length_cons, List.length_nil] at *; omega) | (refine Ph.old ?_ hs; assumption))⟩⟩) (by first | (unfold maxLen; omega) | omega | ((try simp only [lsz, strsz, List.length_map, PCache.lg, TCache.size, PPolicy.lg, TPolicy.size, List.length_cons, List.length_nil] at *); first | (unfold maxLen; omega) | omega)) (by first | (unfold maxLen; omega) | omega | ((try simp only [lsz, strsz, List.length_map, PCache.lg, TCache.size, PPolicy.lg, TPolicy.size, List.length_cons, List.length_nil] at *); first | (unfold maxLen; omega) | omega))) (by rintro _ w ⟨s12, F12, rfl, hl12, hs⟩; exact hs.only Q2) ?_
    clear hs; rintro _ w ⟨s12, F12, rfl, hl12, hs⟩
    refine WA.p (i := 13) Q0 Q6 Q6 Q6 Q0 (hs.only Q2) (fun w hs => Yl.indexAddrA slt24 Q0 Q0 hadr600 Q0 (hd0)) ?_
    refine WA.p (i := 14) Q0 Q6 Q6 Q6 Q0 (hs.only Q2) (fun w hs => Yl.fieldAddr fa216_1 Q0) ?_
    replace hs := PServer.join (⟨d0.host, s12⟩ : PServer) (hs.sel (D := [ow s12 F12]) Q2) (Flat.any hfl11.1)
    try simp only [List.cons_append, List.nil_append] at hs
    refine WA.s (i := 15) Q6 Q0 (Yr.storeHole (s := x1) (G := G11) (B := F12) (d := d0) (u := (⟨d0.host, s12⟩ : PServer)) (k := 0) (j := 1) hs Q2 Q0 Q0 Q0 hd0 ⟨_, by rfl, by rfl⟩ Q3 Q0 (by exact szf214)) (by rintro _ w ⟨s13, F13, hv13, hl13, hg13, hs⟩; exact hs.only Q2) ?_
    clear hs; rintro _ w ⟨s13, F13, hv13, hl13, hg13, hs⟩
    refine WA.done Q6 ?_
    refine At.blocknormal ?_
    refine At.then_ ?_
    refine WC.seq ?_
    refine Qm ?_
    refine Qa ?_
    refine WL.next ?_
    refine WC.ret ?_
    refine fin1' rfl Q0 ?_
    refine RetD.mk hs Q1 ?_
    refine ⟨s13, (hv13).symm, trivial, ?_, ?_⟩
    ·
     rw [hl13, List.map_set]
     refine Nat.le_trans lsz_set_le ?_
     simp only [PServer.lg, TServer.size, hl12, lsz_app, lsz_one, TFile.size, TResponse.size] at *
     omega
    ·
     exact hs.freshD (x := s13) (F := F13) Q2
   ·
    refine WI.r (i := 6) Q0 Q0 (Yr.buildSlice hs sll34 Q0 Q0 Q0 Q4 Q0) (by rintro _ w ⟨b14, rfl, hb, hs⟩; exact hs.only Q2) ?_
    clear hs; rintro _ w ⟨b14, rfl, hb, hs⟩; clear hb
    refine WA.two (i := 4) (j := 7) Q6 ?_ ?_
    ·
     refine WI.r (i := 4) Q0 Q0 (Yl.yr (Yl.loadC sca214 Q0 (Sl.Ok.at_ (hs.okow (x := x1) (F := F1) Q1) (by assumption)).2 Q0)) (by rintro _ _ ⟨rfl, rfl⟩; exact hs.only Q2) ?_
     rintro _ _ ⟨rfl, rfl⟩
     replace hs := Sat.boxow (l := ([([97, 112, 112] : Str), ([] : Str), ([122, 122, 122] : Str)] : List Str)) (hs.sel (D := [box b14 _ _]) Q2) rfl rfl (by decide) (ownL_mk_flat (lit_str Q0))
     try simp only [List.cons_append, List.nil_append] at hs
     refine WA.calld (i := 7) hs (T := 205) (b := b_) (c := c) Q2 (fun _ hs => hs.only Q2) Q6 Q0 Q0 (Yc.func Q0 fn102) (c_spec_l1Str c b_ (⟨[([97, 112, 112] : Str), ([] : Str), ([122, 122, 122] : Str)], some ⟨b14, 0, none⟩, 3⟩ : Sl Str) _ (Apart.own (s := (⟨[([97, 112, 112] : Str), ([] : Str), ([122, 122, 122] : Str)], some ⟨b14, 0, none⟩, 3⟩ : Sl Str)) (F := [b14]) hs Q2) (by exact Nat.succ_pos _) (hs.cur Q1) (Apart.now hb_c hs)) ?_
     clear hs; intro v w ho hR hs
     obtain ⟨x15, rfl, hokx15, hx15, hf15⟩ := hR
     clear ho hf15
     replace hx15 : x15 ∈ ([([97, 112, 112] : Str), ([] : Str), ([122, 122, 122] : Str)] : List Str) := hx15
     have hn15 := mem_len 3 hx15 Q0
     refine WA.calld (i := 9) hs (T := 205) (b := b_) (c := c) Q2 (fun _ hs => hs.only Q2) Q6 Q0 Q0 (Yc.func Q0 fn159) (c_spec_l10Any c b_ _ (hs.cur Q1) (Apart.now hb_c hs)) ?_
     clear hs; intro v w ho hR hs
     obtain ⟨x16, rfl, hokx16, hx16, hf16⟩ := hR
     clear ho hf16
     refine WA.p (i := 10) Q0 Q6 Q6 Q6 Q0 (hs.only Q2) (fun w hs => Yl.build bt219 Q0 Q4) ?_
     refine WA.r (i := 11) Q6 Q0 Q0 (Yr.buildSlice hs sll214 Q0 Q0 Q0 Q4 Q0) (by rintro _ w ⟨b17, rfl, hb, hs⟩; exact hs.only Q2) ?_
     clear hs; rintro _ w ⟨b17, rfl, hb, hs⟩; clear hb
     obtain ⟨G18, B18, hs⟩ := Sat.lend (hs.sel (D := [ow x1 F1]) Q2) hd0
     obtain ⟨K18, hfl18, hs⟩ := PServer.split hs
     try simp only [List.cons_append, List.nil_append] at hs
     refine WA.r (i := 12) Q6 Q0 Q0 (Yr.append (s := d0.files) (F := K18) hs elt214 Q2 Q0 Q0 rfl (xs := [(⟨x15, (⟨x16.status, x16.kind, x16.body, x16.age, x16.shares, x16.policy⟩ : TResponse)⟩ : TFile)]) (hs.box_cells Q1) (by intro x hx; obtain rfl := List.mem_singleton.1 hx; exact ⟨(by first | exact (Flat.any hokx15) | trivial | assumption | exact Flat.any (by assumption) | exact ⟨by omega, by omega⟩ | (show WfS _; unfold WfS; omega) | (show WfS _; unfold WfS; simp only [List.length_append, List.length_cons, List.length_nil] at *; omega) | (refine Ph.old ?_ hs; assumption)), ⟨(by first | exact (Flat.any hokx16).status | trivial | assumption | exact Flat.any (by assumption) | exact ⟨by omega, by omega⟩ | (show WfS _; unfold WfS; omega) | (show WfS _; unfold WfS; simp only [List.length_append, List.length_cons, List.length_nil] at *; omega) | (refine Ph.old ?_ hs; assumption)), (by first | exact (Flat.any hokx16).kind | trivial | assumption | exact Flat.any (by assumption) | exact ⟨by omega, by omega⟩ | (show WfS _; unfold WfS; omega) | (show WfS _; unfold WfS; simp only [List.length_append, List.length_cons, List.length_nil] at *; omega) | (refine Ph.old ?_ hs; assumption)), (by first | exact (Flat.any hokx16).body | trivial | assumption | exact Flat.any (by assumption) | exact ⟨by omega, by omega⟩ | (show WfS _; unfold WfS; omega) | (show WfS _; unfold WfS; simp only [List.length_append, List.length_cons, List.length_nil] at *; omega) | (refine Ph.old ?_ hs; assumption)), (by first | exact (Flat.any hokx16).age | trivial | assumption | exact Flat.any (by assumption) | exact ⟨by omega, by omega⟩ | (show WfS _; unfold WfS; omega) | (show WfS _; unfold WfS; simp only [List.length_append, List.length_cons, List.length_nil] at *; omega) | (refine Ph.old ?_ hs; assumption)), (by first | exact (Flat.any hokx16).shares | trivial | assumption | exact Flat.any (by assumption) | exact ⟨by omega, by omega⟩ | (show WfS _; unfold WfS; omega) | (show WfS _; unfold WfS; simp only [List.length_append, List.length_cons, List.length_nil] at *; omega) | (refine Ph.old ?_ hs; assumption)), (by first | exact (Flat.any hokx16).policy | trivial | assumption | exact Flat.any (by assumption) | exact ⟨by omega, by omega⟩ | (show WfS _; unfold WfS; omega) | (show WfS _; unfold WfS; simp only [List.length_append, List.length_cons, List.length_nil] at *; omega) | (refine Ph.old ?_ hs; assumption))⟩⟩) (by first | (unfold maxLen; omega) | omega | ((try simp only [lsz, strsz, List.length_map, PCache.lg, TCache.size, PPolicy.lg, TPolicy.size, List.length_cons, List.length_nil] at *); first | (unfold maxLen; omega) | omega)) (by first | (unfold maxLen; omega) | omega | ((try simp only [lsz, strsz, List.length_map, PCache.lg, TCache.size, PPolicy.lg, TPolicy.size, List.length_cons, List.length_nil] at *); first | (unfold maxLen; omega) | omega))) (by rintro _ w ⟨s19, F19, rfl, hl19, hs⟩; exact hs.only Q2) ?_
     clear hs; rintro _ w ⟨s19, F19, rfl, hl19, hs⟩
     refine WA.p (i := 13) Q0 Q6 Q6 Q6 Q0 (hs.only Q2) (fun w hs => Yl.indexAddrA slt24 Q0 Q0 hadr600 Q0 (hd0)) ?_
     refine WA.p (i := 14) Q0 Q6 Q6 Q6 Q0 (hs.only Q2) (fun w hs => Yl.fieldAddr fa216_1 Q0) ?_
     replace hs := PServer.join (⟨d0.host, s19⟩ : PServer) (hs.sel (D := [ow s19 F19]) Q2) (Flat.any hfl18.1)
     try simp only [List.cons_append, List.nil_append] at hs
     refine WA.s (i := 15) Q6 Q0 (Yr.storeHole (s := x1) (G := G18) (B := F19) (d := d0) (u := (⟨d0.host, s19⟩ : PServer)) (k := 0) (j := 1) hs Q2 Q0 Q0 Q0 hd0 ⟨_, by rfl, by rfl⟩ Q3 Q0 (by exact szf214)) (by rintro _ w ⟨s20, F20, hv20, hl20, hg20, hs⟩; exact hs.only Q2) ?_
     clear hs; rintro _ w ⟨s20, F20, hv20, hl20, hg20, hs⟩
     refine WA.done Q6 ?_
     refine At.blocknormal ?_
     refine At.then_ ?_
     refine WC.seq ?_
     refine Qm ?_
     refine Qa ?_
     refine WL.next ?_
     refine WC.ret ?_
     refine fin1' rfl Q0 ?_
     refine RetD.mk hs Q1 ?_
     refine ⟨s20, (hv20).symm, trivial, ?_, ?_⟩
     ·
      rw [hl20, List.map_set]
      refine Nat.le_trans lsz_set_le ?_
      simp only [PServer.lg, TServer.size, hl19, lsz_app, lsz_one, TFile.size, TResponse.size] at *
      omega
     ·
      exact hs.freshD (x := s20) (F := F20) Q2
    ·
     replace hs := Sat.boxow (l := ([([97, 112, 112] : Str), ([] : Str), ([122, 122, 122] : Str)] : List Str)) (hs.sel (D := [box b14 _ _]) Q2) rfl rfl (by decide) (ownL_mk_flat (lit_str Q0))
     try simp only [List.cons_append, List.nil_append] at hs
     refine WI.calld (i := 7) hs (T := 205) (b := b_) (c := c) Q2 (fun _ hs => hs.only Q2) Q0 Q0 (Yc.func Q0 fn102) (c_spec_l1Str c b_ (⟨[([97, 112, 112] : Str), ([] : Str), ([122, 122, 122] : Str)], some ⟨b14, 0, none⟩, 3⟩ : Sl Str) _ (Apart.own (s := (⟨[([97, 112, 112] : Str), ([] : Str), ([122, 122, 122] : Str)], some ⟨b14, 0, none⟩, 3⟩ : Sl Str)) (F := [b14]) hs Q2) (by exact Nat.succ_pos _) (hs.cur Q1) (Apart.now hb_c hs)) ?_
     clear hs; intro v w ho hR hs
     obtain ⟨x21, rfl, hokx21, hx21, hf21⟩ := hR
     clear ho hf21
     replace hx21 : x21 ∈ ([([97, 112, 112] : Str), ([] : Str), ([122, 122, 122] : Str)] : List Str) := hx21
     have hn21 := mem_len 3 hx21 Q0
     refine WA.two (i := 4) (j := 9) Q6 ?_ ?_
     ·
      refine WI.r (i := 4) Q0 Q0 (Yl.yr (Yl.loadC sca214 Q0 (Sl.Ok.at_ (hs.okow (x := x1) (F := F1) Q1) (by assumption)).2 Q0)) (by rintro _ _ ⟨rfl, rfl⟩; exact hs.only Q2) ?_
      rintro _ _ ⟨rfl, rfl⟩
      refine WA.calld (i := 9) hs (T := 205) (b := b_) (c := c) Q2 (fun _ hs => hs.only Q2) Q6 Q0 Q0 (Yc.func Q0 fn159) (c_spec_l10Any c b_ _ (hs.cur Q1) (Apart.now hb_c hs)) ?_
      clear hs; intro v w ho hR hs
      obtain ⟨x22, rfl, hokx22, hx22, hf22⟩ := hR
      clear ho hf22
      refine WA.p (i := 10) Q0 Q6 Q6 Q6 Q0 (hs.only Q2) (fun w hs => Yl.build bt219 Q0 Q4) ?_
      refine WA.r (i := 11) Q6 Q0 Q0 (Yr.buildSlice hs sll214 Q0 Q0 Q0 Q4 Q0) (by rintro _ w ⟨b23, rfl, hb, hs⟩; exact hs.only Q2) ?_
      clear hs; rintro _ w ⟨b23, rfl, hb, hs⟩; clear hb
      obtain ⟨G24, B24, hs⟩ := Sat.lend (hs.sel (D := [ow x1 F1]) Q2) hd0
      obtain ⟨K24, hfl24, hs⟩ := PServer.split hs
      try simp only [List.cons_append, List.nil_append] at hs
      refine WA.r (i := 12) Q6 Q0 Q0 (Yr.append (s := d0.files) (F := K24) hs elt214 Q2 Q0 Q0 rfl (xs := [(⟨x21, (⟨x22.status, x22.kind, x22.body, x22.age, x22.shares, x22.policy⟩ : TResponse)⟩ : TFile)]) (hs.box_cells Q1) (by intro x hx; obtain rfl := List.mem_singleton.1 hx; exact ⟨(by first | exact (Flat.any hokx21) | trivial | assumption | exact Flat.any (by assumption) | exact ⟨by omega, by omega⟩ | (show WfS _; unfold WfS; omega) | (show WfS _; unfold WfS; simp only [List.length_append, List.length_cons, List.length_nil] at *; omega) | (refine Ph.old ?_ hs; assumption)), ⟨(by first | exact (Flat.any hokx22).status | trivial | assumption | exact Flat.any (by assumption) | exact ⟨by omega, by omega⟩ | (show WfS _; unfold WfS; omega) | (show WfS _; unfold WfS; simp only [List.length_append, List.length_cons, List.length_nil] at *; omega) | (refine Ph.old ?_ hs; assumption)), (by first | exact (Flat.any hokx22).kind | trivial | assumption | exact Flat.any (by assumption) | exact ⟨by omega, by omega⟩ | (show WfS _; unfold WfS; omega) | (show WfS _; unfold WfS; simp only [List.length_append, List.length_cons, List.length_nil] at *; omega) | (refine Ph.old ?_ hs; assumption)), (by first | exact (Flat.any hokx22).body | trivial | assumption | exact Flat.any (by assumption) | exact ⟨by omega, by omega⟩ | (show WfS _; unfold WfS; omega) | (show WfS _; unfold WfS; simp only [List.length_append, List.length_cons, List.length_nil] at *; omega) | (refine Ph.old ?_ hs; assumption)), (by first | exact (Flat.any hokx22).age | trivial | assumption | exact Flat.any (by assumption) | exact ⟨by omega, by omega⟩ | (show WfS _; unfold WfS; omega) | (show WfS _; unfold WfS; simp only [List.length_append, List.length_cons, List.length_nil] at *; omega) | (refine Ph.old ?_ hs; assumption)), (by first | exact (Flat.any hokx22).shares | trivial | assumption | exact Flat.any (by assumption) | exact ⟨by omega, by omega⟩ | (show WfS _; unfold WfS; omega) | (show WfS _; unfold WfS; simp only [List.length_append, List.length_cons, List.length_nil] at *; omega) | (refine Ph.old ?_ hs; assumption)), (by first | exact (Flat.any hokx22).policy | trivial | assumption | exact Flat.any (by assumption) | exact ⟨by omega, by omega⟩ | (show WfS _; unfold WfS; omega) | (show WfS _; unfold WfS; simp only [List.length_append, List.length_cons, List.length_nil] at *; omega) | (refine Ph.old ?_ hs; assumption))⟩⟩) (by first | (unfold maxLen; omega) | omega | ((try simp only [lsz, strsz, List.length_map, PCache.lg, TCache.size, PPolicy.lg, TPolicy.size, List.length_cons, List.length_nil] at *); first | (unfold maxLen; omega) | omega)) (by first | (unfold maxLen; omega) | omega | ((try simp only [lsz, strsz, List.length_map, PCache.lg, TCache.size, PPolicy.lg, TPolicy.size, List.length_cons, List.length_nil] at *); first | (unfold maxLen; omega) | omega))) (by rintro _ w ⟨s25, F25, rfl, hl25, hs⟩; exact hs.only Q2) ?_
      clear hs; rintro _ w ⟨s25, F25, rfl, hl25, hs⟩
      refine WA.p (i := 13) Q0 Q6 Q6 Q6 Q0 (hs.only Q2) (fun w hs => Yl.indexAddrA slt24 Q0 Q0 hadr600 Q0 (hd0)) ?_
      refine WA.p (i := 14) Q0 Q6 Q6 Q6 Q0 (hs.only Q2) (fun w hs => Yl.fieldAddr fa216_1 Q0) ?_
      replace hs := PServer.join (⟨d0.host, s25⟩ : PServer) (hs.sel (D := [ow s25 F25]) Q2) (Flat.any hfl24.1)
      try simp only [List.cons_append, List.nil_append] at hs
      refine WA.s (i := 15) Q6 Q0 (Yr.storeHole (s := x1) (G := G24) (B := F25) (d := d0) (u := (⟨d0.host, s25⟩ : PServer)) (k := 0) (j := 1) hs Q2 Q0 Q0 Q0 hd0 ⟨_, by rfl, by rfl⟩ Q3 Q0 (by exact szf214)) (by rintro _ w ⟨s26, F26, hv26, hl26, hg26, hs⟩; exact hs.only Q2) ?_
      clear hs; rintro _ w ⟨s26, F26, hv26, hl26, hg26, hs⟩
      refine WA.done Q6 ?_
      refine At.blocknormal ?_
      refine At.then_ ?_
      refine WC.seq ?_
      refine Qm ?_
      refine Qa ?_
      refine WL.next ?_
      refine WC.ret ?_
      refine fin1' rfl Q0 ?_
      refine RetD.mk hs Q1 ?_
      refine ⟨s26, (hv26).symm, trivial, ?_, ?_⟩
      ·
       rw [hl26, List.map_set]
       refine Nat.le_trans lsz_set_le ?_
       simp only [PServer.lg, TServer.size, hl25, lsz_app, lsz_one, TFile.size, TResponse.size] at *
       omega
      ·
       exact hs.freshD (x := s26) (F := F26) Q2
     ·
      refine WI.calld (i := 9) hs (T := 205) (b := b_) (c := c) Q2 (fun _ hs => hs.only Q2) Q0 Q0 (Yc.func Q0 fn159) (c_spec_l10Any c b_ _ (hs.cur Q1) (Apart.now hb_c hs)) ?_
      clear hs; intro v w ho hR hs
      obtain ⟨x27, rfl, hokx27, hx27, hf27⟩ := hR
      clear ho hf27
      refine WA.p (i := 10) Q0 Q6 Q6 Q6 Q0 (hs.only Q2) (fun w hs => Yl.build bt219 Q0 Q4) ?_
      refine WA.dag' [(⟨4, 23, [], (fun _ v cs => v = Sl.v d0.files ∧ cs = [])⟩, []), (⟨11, 30, [], (fun _ v cs => ∃ b, v = .slice (some ⟨b, 0, none⟩) 1 1 ∧ cs = [box b 219 ((Ph.enc ((⟨x21, (⟨x27.status, x27.kind, x27.body, x27.age, x27.shares, x27.policy⟩ : TResponse)⟩ : TFile))))])⟩, [])] [false, false] [(0, _), (2, _), (3, _), (4, _), (5, _), (6, _), (7, _), (8, _), (9, _), (17, _), (18, _), (19, _), (20, _), (21, _), (22, _), (24, _), (25, _), (26, _), (27, _), (28, _), (29, _)] ⟨by rfl, by rfl, by rfl, by rfl, by rfl, by rfl, by rfl, by rfl, by rfl, by rfl, by rfl, by rfl, by rfl, by rfl, by rfl, by rfl, by rfl, by rfl, by rfl, by rfl, by rfl, trivial⟩ Q0 Q6 Q6 Q6 Q6 Q6 Q6 Q6 Q6 (fun _ hs => hs.only Q2) hs (fuel := 4) ⟨⟨local_const, ?_⟩, ⟨local_const, ?_⟩, trivial⟩ ?_
      ·
       clear hs
       intro w R hs
       simp only [List.cons_append, List.nil_append] at hs
       exact Gives.p' Q0 (Yl.loadC sca214 Q0 (Sl.Ok.at_ (hs.okow (x := x1) (F := F1) Q1) (by assumption)).2 Q0) ⟨[], ⟨rfl, rfl⟩, hs⟩
      ·
       clear hs
       intro w R hs
       simp only [List.cons_append, List.nil_append] at hs
       exact Gives.rr' Q0 (Yr.buildSlice hs sll214 Q0 Q0 Q0 Q4 Q0) (fun _ _ ⟨b, hv, _, hs1⟩ => ⟨[box b 219 ((Ph.enc ((⟨x21, (⟨x27.status, x27.kind, x27.body, x27.age, x27.shares, x27.policy⟩ : TResponse)⟩ : TFile))))], ⟨b, hv, rfl⟩, hs1⟩)
      clear hs
      rintro _ _ ⟨rfl, rfl⟩
      rintro _ _ ⟨b29, rfl, rfl⟩
      intro w hs
      simp only [List.cons_append, List.nil_append, cond_true, cond_false] at hs
      obtain ⟨G30, B30, hs⟩ := Sat.lend (hs.sel (D := [ow x1 F1]) Q2) hd0
      obtain ⟨K30, hfl30, hs⟩ := PServer.split hs
      try simp only [List.cons_append, List.nil_append] at hs
      refine WA.r (i := 12) Q6 Q0 Q0 (Yr.append (s := d0.files) (F := K30) hs elt214 Q2 Q0 Q0 rfl (xs := [(⟨x21, (⟨x27.status, x27.kind, x27.body, x27.age, x27.shares, x27.policy⟩ : TResponse)⟩ : TFile)]) (hs.box_cells Q1) (by intro x hx; obtain rfl := List.mem_singleton.1 hx; exact ⟨(by first | exact (Flat.any hokx21) | trivial | assumption | exact Flat.any (by assumption) | exact ⟨by omega, by omega⟩ | (show WfS _; unfold WfS; omega) | (show WfS _; unfold WfS; simp only [List.length_append, List.length_cons, List.length_nil] at *; omega) | (refine Ph.old ?_ hs; assumption)), ⟨(by first | exact (Flat.any hokx27).status | trivial | assumption | exact Flat.any (by assumption) | exact ⟨by omega, by omega⟩ | (show WfS _; unfold WfS; omega) | (show WfS _; unfold WfS; simp only [List.length_append, List.length_cons, List.length_nil] at *; omega) | (refine Ph.old ?_ hs; assumption)), (by first | exact (Flat.any hokx27).kind | trivial | assumption | exact Flat.any (by assumption) | exact ⟨by omega, by omega⟩ | (show WfS _; unfold WfS; omega) | (show WfS _; unfold WfS; simp only [List.length_append, List.length_cons, List.length_nil] at *; omega) | (refine Ph.old ?_ hs; assumption)), (by first | exact (Flat.any hokx27).body | trivial | assumption | exact Flat.any (by assumption) | exact ⟨by omega, by omega⟩ | (show WfS _; unfold WfS; omega) | (show WfS _; unfold WfS; simp only [List.length_append, List.length_cons, List.length_nil] at *; omega) | (refine Ph.old ?_ hs; assumption)), (by first | exact (Flat.any hokx27).age | trivial | assumption | exact Flat.any (by assumption) | exact ⟨by omega, by omega⟩ | (show WfS _; unfold WfS; omega) | (show WfS _; unfold WfS; simp only [List.length_append, List.length_cons, List.length_nil] at *; omega) | (refine Ph.old ?_ hs; assumption)), (by first | exact (Flat.any hokx27).shares | trivial | assumption | exact Flat.any (by assumption) | exact ⟨by omega, by omega⟩ | (show WfS _; unfold WfS; omega) | (show WfS _; unfold WfS; simp only [List.length_append, List.length_cons, List.length_nil] at *; omega) | (refine Ph.old ?_ hs; assumption)), (by first | exact (Flat.any hokx27).policy | trivial | assumption | exact Flat.any (by assumption) | exact ⟨by omega, by omega⟩ | (show WfS _; unfold WfS; omega) | (show WfS _; unfold WfS; simp only [List.length_append, List.length_cons, List.length_nil] at *; omega) | (refine Ph.old ?_ hs; assumption))⟩⟩) (by first | (unfold maxLen; omega) | omega | ((try simp only [lsz, strsz, List.length_map, PCache.lg, TCache.size, PPolicy.lg, TPolicy.size, List.length_cons, List.length_nil] at *); first | (unfold maxLen; omega) | omega)) (by first | (unfold maxLen; omega) | omega | ((try simp only [lsz, strsz, List.length_map, PCache.lg, TCache.size, PPolicy.lg, TPolicy.size, List.length_cons, List.length_nil] at *); first | (unfold maxLen; omega) | omega))) (by rintro _ w ⟨s31, F31, rfl, hl31, hs⟩; exact hs.only Q2) ?_
      clear hs; rintro _ w ⟨s31, F31, rfl, hl31, hs⟩
      refine WA.p (i := 13) Q0 Q6 Q6 Q6 Q0 (hs.only Q2) (fun w hs => Yl.indexAddrA slt24 Q0 Q0 hadr600 Q0 (hd0)) ?_
      refine WA.p (i := 14) Q0 Q6 Q6 Q6 Q0 (hs.only Q2) (fun w hs => Yl.fieldAddr fa216_1 Q0) ?_
      replace hs := PServer.join (⟨d0.host, s31⟩ : PServer) (hs.sel (D := [ow s31 F31]) Q2) (Flat.any hfl30.1)
      try simp only [List.cons_append, List.nil_append] at hs
      refine WA.s (i := 15) Q6 Q0 (Yr.storeHole (s := x1) (G := G30) (B := F31) (d := d0) (u := (⟨d0.host, s31⟩ : PServer)) (k := 0) (j := 1) hs Q2 Q0 Q0 Q0 hd0 ⟨_, by rfl, by rfl⟩ Q3 Q0 (by exact szf214)) (by rintro _ w ⟨s32, F32, hv32, hl32, hg32, hs⟩; exact hs.only Q2) ?_
      clear hs; rintro _ w ⟨s32, F32, hv32, hl32, hg32, hs⟩
      refine WA.done Q6 ?_
      refine At.blocknormal ?_
      refine At.then_ ?_
      refine WC.seq ?_
      refine Qm ?_
      refine Qa ?_
      refine WL.next ?_
      refine WC.ret ?_
      refine fin1' rfl Q0 ?_
      refine RetD.mk hs Q1 ?_
      refine ⟨s32, (hv32).symm, trivial, ?_, ?_⟩
      ·
       rw [hl32, List.map_set]
       refine Nat.le_trans lsz_set_le ?_
       simp only [PServer.lg, TServer.size, hl31, lsz_app, lsz_one, TFile.size, TResponse.size] at *
       omega
      ·
       exact hs.freshD (x := s32) (F := F32) Q2
  ·
   replace h2 := of_decide_eq_false h2
   refine WC.skip ?_
   refine At.blocknormal ?_
   refine At.then_ ?_
   refine WC.seq ?_
   refine Qm ?_
   refine Qa ?_
   refine WL.next ?_
   refine WC.ret ?_
   refine fin1' rfl Q0 ?_
   refine RetD.mk hs Q1 ?_
   refine ⟨x1, rfl, trivial, ?_, ?_⟩
   ·
    repeat' apply And.intro
    all_goals (try dsimp only)
    all_goals first | trivial | assumption | omega | ((try simp only [List.length_append, List.length_cons, List.length_nil, lsz_app, lsz_one, lsz_cons, lsz_nil, TAddr.size, TResponse.size, TRequest.size, TPolicy.size, TEntry.size, TCache.size, strsz, TLine.size, TSent.size, TServer.size, TFile.size, List.map_append, List.map_cons, List.map_nil, PServer.lg, PPolicy.lg, PCache.lg] at *); first | omega | assumption)
   ·
    exact hs.freshD (x := x1) (F := F1) Q2

theorem c_spec_l4Any (c : Nat) (b_ : Sl UInt8) (w : World)   (h_c : CurAt 205 b_ c w) (hb_c : CurB w b_ c) : Calls Tryz.prog 120 [bp c 0].toArray w (RetD 205 b_ c w (fun v w' => ∃ (x : TAddr), v = .agg (Ph.enc x).toArray ∧ (Ph.ok w' x) ∧ (x.host.length ≤ 9 ∧ x.path.length ≤ 5) ∧ True)) := by
 refine enterN 21 Tryz.func120 rfl rfl rfl ?_
 have hs := Sat.startC h_c
 refine WC.seq ?_
 refine WL.r Q0 (Yr.alloc hs zt39) ?_
 clear hs; rintro _ w ⟨b1, rfl, hb, hs⟩; clear hb
 refine WL.next ?_
 refine WC.seq ?_
 refine Qm ?_
 refine WL.calld hs (T := 205) (b := b_) (c := c) Q2 Q0 (Yc.func Q0 fn176) (c_spec_l4Addr c b_ _ (hs.cur Q1) (Apart.now hb_c hs)) ?_
 clear hs; intro v w ho hR hs
 obtain ⟨x2, rfl, hokx2, hx2, hf2⟩ := hR
 clear ho hf2
 have hn2 := hosts3_len hx2.1; have hm2 := hx2.2
 refine WL.r Q0 (Yr.alloc hs zt39) ?_
 clear hs; rintro _ w ⟨b3, rfl, hb, hs⟩; clear hb
 refine WL.s (Yr.storeB hs Q0 Q0 Q0 Q5 Q3 Q0 (by exact szf39)) ?_
 clear hs; rintro _ w hs
 refine WL.next ?_
 refine WC.seq' ?_
 refine WC.seq ?_
 refine Qm ?_
 refine WL.calld hs (T := 205) (b := b_) (c := c) Q2 Q0 (Yc.func Q0 fn118) (c_spec_l1Below c b_ _ _ (hs.cur Q1) (Apart.now hb_c hs)) ?_
 clear hs; intro v w ho hR hs
 obtain ⟨x4, rfl, hokx4, hx4, hf4⟩ := hR
 clear ho hf4
 replace hx4 : 0 ≤ x4 ∧ x4 < 12 := ⟨hx4.1, hx4.2.2 (by decide)⟩
 refine WL.next ?_
 refine WC.block ?_
 refine WC.seq ?_
 refine WL.p Q0 (Yl.eqi Q0 Q0) ?_
 refine Qa ?_
 refine WL.next ?_
 refine WC.condS Q0 (fun h1 => ?_) (fun h1 => ?_)
 ·
  replace h1 := of_decide_eq_true h1
  refine WC.region ?_
  refine Qm ?_
  refine WL.r Q0 (Yr.buildSlice hs sll34 Q0 Q0 Q0 Q4 Q0) ?_
  clear hs; rintro _ w ⟨b5, rfl, hb, hs⟩; clear hb
  replace hs := Sat.boxow (l := ([([] : Str), ([65] : Str), ([97, 98, 99, 100, 101, 102, 103, 104, 105] : Str), ([97, 98, 99, 100, 101, 102, 103, 104] : Str)] : List Str)) (hs.sel (D := [box b5 _ _]) Q2) rfl rfl (by decide) (ownL_mk_flat (lit_str Q0))
  try simp only [List.cons_append, List.nil_append] at hs
  refine WL.calld hs (T := 205) (b := b_) (c := c) Q2 Q0 (Yc.func Q0 fn102) (c_spec_l1Str c b_ (⟨[([] : Str), ([65] : Str), ([97, 98, 99, 100, 101, 102, 103, 104, 105] : Str), ([97, 98, 99, 100, 101, 102, 103, 104] : Str)], some ⟨b5, 0, none⟩, 4⟩ : Sl Str) _ (Apart.own (s := (⟨[([] : Str), ([65] : Str), ([97, 98, 99, 100, 101, 102, 103, 104, 105] : Str), ([97, 98, 99, 100, 101, 102, 103, 104] : Str)], some ⟨b5, 0, none⟩, 4⟩ : Sl Str)) (F := [b5]) hs Q2) (by exact Nat.succ_pos _) (hs.cur Q1) (Apart.now hb_c hs)) ?_
  clear hs; intro v w ho hR hs
  obtain ⟨x6, rfl, hokx6, hx6, hf6⟩ := hR
  clear ho hf6
  replace hx6 : x6 ∈ ([([] : Str), ([65] : Str), ([97, 98, 99, 100, 101, 102, 103, 104, 105] : Str), ([97, 98, 99, 100, 101, 102, 103, 104] : Str)] : List Str) := hx6
  have hn6 := mem_len 9 hx6 Q0
  refine WL.p Q0 (Yl.fieldAddr fa39_0 Q0) ?_
  refine WL.s (Yr.storeB hs Q0 Q0 Q0 Q5 Q3 Q0 (by exact szf9)) ?_
  clear hs; rintro _ w hs
  refine WL.nil ?_
  refine At.blocknormal ?_
  refine At.then_ ?_
  refine WC.seq ?_
  refine WL.p Q0 (Yl.loadAB agg39 Q0 hs Q1 Q0 Q0) ?_
  refine WL.s (Yr.storeB hs Q0 Q0 Q0 Q5 Q3 Q0 (by exact szf39)) ?_
  clear hs; rintro _ w hs
  refine WL.next ?_
  refine WC.ret ?_
  refine fin1c rfl agg39 Q0 hs Q1 Q0 ?_
  refine RetD.mk hs Q1 ?_
  refine ⟨(⟨x6, x2.path⟩ : TAddr), rfl, ⟨(by first | exact (Flat.any hokx6) | trivial | assumption | exact Flat.any (by assumption) | exact ⟨by omega, by omega⟩ | (show WfS _; unfold WfS; omega) | (show WfS _; unfold WfS; simp only [List.length_append, List.length_cons, List.length_nil] at *; omega) | (refine Ph.old ?_ hs; assumption)), (by first | exact (Flat.any hokx2).path | trivial | assumption | exact Flat.any (by assumption) | exact ⟨by omega, by omega⟩ | (show WfS _; unfold WfS; omega) | (show WfS _; unfold WfS; simp only [List.length_append, List.length_cons, List.length_nil] at *; omega) | (refine Ph.old ?_ hs; assumption))⟩, ?_, ?_⟩
  ·
   repeat' apply And.intro
   all_goals (try dsimp only)
   all_goals first | trivial | assumption | omega | ((try simp only [List.length_append, List.length_cons, List.length_nil, lsz_app, lsz_one, lsz_cons, lsz_nil, TAddr.size, TResponse.size, TRequest.size, TPolicy.size, TEntry.size, TCache.size, strsz, TLine.size, TSent.size, TServer.size, TFile.size, List.map_append, List.map_cons, List.map_nil, PServer.lg, PPolicy.lg, PCache.lg] at *); first | omega | assumption)
  ·
   trivial
 ·
  replace h1 := of_decide_eq_false h1
  refine WC.seq ?_
  refine WL.p Q0 (Yl.eqi Q0 Q0) ?_
  refine Qa ?_
  refine WL.next ?_
  refine WC.condS Q0 (fun h2 => ?_) (fun h2 => ?_)
  ·
   replace h2 := of_decide_eq_true h2
   refine WC.region ?_
   refine Qm ?_
   refine WL.r Q0 (Yr.buildSlice hs sll34 Q0 Q0 Q0 Q4 Q0) ?_
   clear hs; rintro _ w ⟨b7, rfl, hb, hs⟩; clear hb
   replace hs := Sat.boxow (l := ([([] : Str), ([97, 47, 98] : Str), ([97, 49] : Str)] : List Str)) (hs.sel (D := [box b7 _ _]) Q2) rfl rfl (by decide) (ownL_mk_flat (lit_str Q0))
   try simp only [List.cons_append, List.nil_append] at hs
   refine WL.calld hs (T := 205) (b := b_) (c := c) Q2 Q0 (Yc.func Q0 fn102) (c_spec_l1Str c b_ (⟨[([] : Str), ([97, 47, 98] : Str), ([97, 49] : Str)], some ⟨b7, 0, none⟩, 3⟩ : Sl Str) _ (Apart.own (s := (⟨[([] : Str), ([97, 47, 98] : Str), ([97, 49] : Str)], some ⟨b7, 0, none⟩, 3⟩ : Sl Str)) (F := [b7]) hs Q2) (by exact Nat.succ_pos _) (hs.cur Q1) (Apart.now hb_c hs)) ?_
   clear hs; intro v w ho hR hs
   obtain ⟨x8, rfl, hokx8, hx8, hf8⟩ := hR
   clear ho hf8
   replace hx8 : x8 ∈ ([([] : Str), ([97, 47, 98] : Str), ([97, 49] : Str)] : List Str) := hx8
   have hn8 := mem_len 3 hx8 Q0
   refine WL.p Q0 (Yl.fieldAddr fa39_1 Q0) ?_
   refine WL.s (Yr.storeB hs Q0 Q0 Q0 Q5 Q3 Q0 (by exact szf9)) ?_
   clear hs; rintro _ w hs
   refine WL.nil ?_
   refine At.blocknormal ?_
   refine At.then_ ?_
   refine WC.seq ?_
   refine WL.p Q0 (Yl.loadAB agg39 Q0 hs Q1 Q0 Q0) ?_
   refine WL.s (Yr.storeB hs Q0 Q0 Q0 Q5 Q3 Q0 (by exact szf39)) ?_
   clear hs; rintro _ w hs
   refine WL.next ?_
   refine WC.ret ?_
   refine fin1c rfl agg39 Q0 hs Q1 Q0 ?_
   refine RetD.mk hs Q1 ?_
   refine ⟨(⟨x2.host, x8⟩ : TAddr), rfl, ⟨(by first | exact (Flat.any hokx2).host | trivial | assumption | exact Flat.any (by assumption) | exact ⟨by omega, by omega⟩ | (show WfS _; unfold WfS; omega) | (show WfS _; unfold WfS; simp only [List.length_append, List.length_cons, List.length_nil] at *; omega) | (refine Ph.old ?_ hs; assumption)), (by first | exact (Flat.any hokx8) | trivial | assumption | exact Flat.any (by assumption) | exact ⟨by omega, by omega⟩ | (show WfS _; unfold WfS; omega) | (show WfS _; unfold WfS; simp only [List.length_append, List.length_cons, List.length_nil] at *; omega) | (refine Ph.old ?_ hs; assumption))⟩, ?_, ?_⟩
   ·
    repeat' apply And.intro
    all_goals (try dsimp only)
    all_goals first | trivial | assumption | omega | ((try simp only [List.length_append, List.length_cons, List.length_nil, lsz_app, lsz_one, lsz_cons, lsz_nil, TAddr.size, TResponse.size, TRequest.size, TPolicy.size, TEntry.size, TCache.size, strsz, TLine.size, TSent.size, TServer.size, TFile.size, List.map_append, List.map_cons, List.map_nil, PServer.lg, PPolicy.lg, PCache.lg] at *); first | omega | assumption)
   ·
    trivial
  ·
   replace h2 := of_decide_eq_false h2
   refine WC.skip ?_
   refine At.blocknormal ?_
   refine At.then_ ?_
   refine WC.seq ?_
   refine WL.p Q0 (Yl.loadAB agg39 Q0 hs Q1 Q0 Q0) ?_
   refine WL.s (Yr.storeB hs Q0 Q0 Q0 Q5 Q3 Q0 (by exact szf39)) ?_
   clear hs; rintro _ w hs
   refine WL.next ?_
   refine WC.ret ?_
   refine fin1c rfl agg39 Q0 hs Q1 Q0 ?_
   refine RetD.mk hs Q1 ?_
   refine ⟨(⟨x2.host, x2.path⟩ : TAddr), rfl, ⟨(by first | exact (Flat.any hokx2).host | trivial | assumption | exact Flat.any (by assumption) | exact ⟨by omega, by omega⟩ | (show WfS _; unfold WfS; omega) | (show WfS _; unfold WfS; simp only [List.length_append, List.length_cons, List.length_nil] at *; omega) | (refine Ph.old ?_ hs; assumption)), (by first | exact (Flat.any hokx2).path | trivial | assumption | exact Flat.any (by assumption) | exact ⟨by omega, by omega⟩ | (show WfS _; unfold WfS; omega) | (show WfS _; unfold WfS; simp only [List.length_append, List.length_cons, List.length_nil] at *; omega) | (refine Ph.old ?_ hs; assumption))⟩, ?_, ?_⟩
   ·
    repeat' apply And.intro
    all_goals (try dsimp only)
    all_goals first | trivial | assumption | omega | ((try simp only [List.length_append, List.length_cons, List.length_nil, lsz_app, lsz_one, lsz_cons, lsz_nil, TAddr.size, TResponse.size, TRequest.size, TPolicy.size, TEntry.size, TCache.size, strsz, TLine.size, TSent.size, TServer.size, TFile.size, List.map_append, List.map_cons, List.map_nil, PServer.lg, PPolicy.lg, PCache.lg] at *); first | omega | assumption)
   ·
    trivial

theorem c_spec_l13Cache (c : Nat) (b_ : Sl UInt8) (w : World)   (h_c : CurAt 205 b_ c w) (hb_c : CurB w b_ c) : Calls Tryz.prog 239 [bp c 0].toArray w (RetD 205 b_ c w (fun v w' => ∃ (x : PCache), v = .agg (Ph.enc x).toArray ∧ (True) ∧ (x.lg.size ≤ 10000) ∧ Fresh w x w')) := by
 refine enterN 30 Tryz.func239 rfl rfl rfl ?_
 have hs := Sat.startC h_c
 refine WC.seq ?_
 refine WL.r Q0 (Yr.alloc hs zt27) ?_
 clear hs; rintro _ w ⟨b1, rfl, hb, hs⟩; clear hb
 refine WL.next ?_
 refine WC.seq ?_
 refine WL.p Q0 (Yl.build bt27 Q0 Q4) ?_
 refine WL.r Q0 (Yr.alloc hs zt27) ?_
 clear hs; rintro _ w ⟨b2, rfl, hb, hs⟩; clear hb
 refine WL.s (Yr.storeB hs Q0 Q0 Q0 Q5 Q3 Q0 (by exact szf27)) ?_
 clear hs; rintro _ w hs
 refine WL.next ?_
 refine WC.seq' ?_
 refine WC.seq ?_
 refine Qm ?_
 refine WL.calld hs (T := 205) (b := b_) (c := c) Q2 Q0 (Yc.func Q0 fn118) (c_spec_l1Below c b_ _ _ (hs.cur Q1) (Apart.now hb_c hs)) ?_
 clear hs; intro v w ho hR hs
 obtain ⟨x3, rfl, hokx3, hx3, hf3⟩ := hR
 clear ho hf3
 replace hx3 : 0 ≤ x3 ∧ x3 < 6 := ⟨hx3.1, hx3.2.2 (by decide)⟩
 refine Qa ?_
 refine WL.next ?_
 refine WC.block ?_
 replace hs := Sat.nilsl (α := TEntry) hs
 replace hs := PCache.join (⟨⟨[], none, 0⟩⟩ : PCache) hs
 refine WC.loopC (ι := Int × PCache × List Nat) (fun ⟨m, q, F⟩ => m.toNat) (fun ⟨m, q, F⟩ => [(4, I m)]) (fun ⟨m, q, F⟩ => [box b2 27 [Sl.v q.entries], ow q F]) (fun ⟨m, q, F⟩ => 0 ≤ m ∧ m ≤ 5 ∧ (q.lg.size : Int) ≤ (5 - m) * 2000) [(0, _), (2, _), (3, _)] (_, ⟨⟨[], none, 0⟩⟩, []) (hs.sel (D := [box b2 27 _, ow (⟨⟨[], none, 0⟩⟩ : PCache) []]) Q2) ⟨by rfl, by rfl, by rfl, trivial⟩ ⟨by rfl, trivial⟩ ?_ ?_
 ·
  refine ⟨by omega, by omega, ?_⟩
  simp [PCache.lg, TCache.size, lsz, lsum]; omega
 clear hs; rintro ⟨m, q, F⟩ w ⟨hJ1, hJ2, hJ3⟩ hs
 simp only [List.cons_append, List.nil_append] at hs
 refine WC.seq' ?_
 refine WC.seq ?_
 refine Qm ?_
 refine WL.p Q0 (Yl.gtr Q0 Q0) ?_
 refine WL.next ?_
 refine WC.condS Q0 (fun h1 => ?_) (fun h1 => ?_)
 ·
  replace h1 := of_decide_eq_true h1
  skip
  refine WC.skipn ?_
  refine WC.seq' ?_
  refine WC.block ?_
  refine WC.seq ?_
  refine Qm ?_
  refine WL.calld hs (T := 205) (b := b_) (c := c) Q2 Q0 (Yc.func Q0 fn85) (c_spec_l4Host c b_ _ (hs.cur Q1) (Apart.now hb_c hs)) ?_
  clear hs; intro v w ho hR hs
  obtain ⟨x4, rfl, hokx4, hx4, hf4⟩ := hR
  clear ho hf4
  have hn4 := hosts3_len hx4
  refine Qa ?_
  refine WL.next ?_
  refine WC.seq ?_
  refine Qm ?_
  refine WL.calld hs (T := 205) (b := b_) (c := c) Q2 Q0 (Yc.func Q0 fn176) (c_spec_l4Addr c b_ _ (hs.cur Q1) (Apart.now hb_c hs)) ?_
  clear hs; intro v w ho hR hs
  obtain ⟨x5, rfl, hokx5, hx5, hf5⟩ := hR
  clear ho hf5
  have hn5 := hosts3_len hx5.1; have hm5 := hx5.2
  refine WL.r Q0 (Yr.alloc hs zt39) ?_
  clear hs; rintro _ w ⟨b6, rfl, hb, hs⟩; clear hb
  refine WL.s (Yr.storeB hs Q0 Q0 Q0 Q5 Q3 Q0 (by exact szf39)) ?_
  clear hs; rintro _ w hs
  refine WL.next ?_
  refine WC.any2 (c := box b2 _ _) mixed hs (by repeat (first | exact Ext.here | apply Ext.there)) ?_
  clear hs; intro w hs
  refine WA.p (i := 1) Q0 Q6 Q6 Q6 Q0 (hs.only Q2) (fun w hs => Yl.move Q0) ?_
  refine WA.p (i := 2) Q0 Q6 Q6 Q6 Q0 (hs.only Q2) (fun w hs => Yl.loadAB agg39 Q0 hs Q1 Q0 Q0) ?_
  refine WA.p (i := 3) Q0 Q6 Q6 Q6 Q0 (hs.only Q2) (fun w hs => Yl.move Q0) ?_
  refine WA.p (i := 4) Q0 Q6 Q6 Q6 Q0 (hs.only Q2) (fun w hs => Yl.move Q0) ?_
  refine WA.p (i := 8) Q0 Q6 Q6 Q6 Q0 (hs.only Q2) (fun w hs => Yl.move Q0) ?_
  refine WA.two (i := 0) (j := 5) Q6 ?_ ?_
  ·
   refine WI.r (i := 0) Q0 Q0 (Yl.yr (Yl.loadAB agg27 Q0 hs Q1 Q0 Q0)) (by rintro _ _ ⟨rfl, rfl⟩; exact hs.only Q2) ?_
   rintro _ _ ⟨rfl, rfl⟩
   refine WA.calld (i := 5) hs (T := 205) (b := b_) (c := c) Q2 (fun _ hs => hs.only Q2) Q6 Q0 Q0 (Yc.func Q0 fn118) (c_spec_l1Below c b_ _ _ (hs.cur Q1) (Apart.now hb_c hs)) ?_
   clear hs; intro v w ho hR hs
   obtain ⟨x7, rfl, hokx7, hx7, hf7⟩ := hR
   clear ho hf7
   replace hx7 : 0 ≤ x7 ∧ x7 < 5 := ⟨hx7.1, hx7.2.2 (by decide)⟩
   refine WA.p (i := 6) Q0 Q6 Q6 Q6 Q0 (hs.only Q2) (fun w hs => Yl.add Q0 Q0 Q7) ?_
   refine WA.calld (i := 7) hs (T := 205) (b := b_) (c := c) Q2 (fun _ hs => hs.only Q2) Q6 Q0 Q0 (Yc.func Q0 fn158) (c_spec_l10Response c b_ _ _ (show WfI _ from ⟨by omega, by omega⟩) (hs.cur Q1) (Apart.now hb_c hs)) ?_
   clear hs; intro v w ho hR hs
   obtain ⟨x8, rfl, hokx8, hx8, hf8⟩ := hR
   clear ho hf8
   have hn8 := hx8.1
   refine WA.calld (i := 9) hs (T := 205) (b := b_) (c := c) Q2 (fun _ hs => hs.only Q2) Q6 Q0 Q0 (Yc.func Q0 fn118) (c_spec_l1Below c b_ _ _ (hs.cur Q1) (Apart.now hb_c hs)) ?_
   clear hs; intro v w ho hR hs
   obtain ⟨x9, rfl, hokx9, hx9, hf9⟩ := hR
   clear ho hf9
   replace hx9 : 0 ≤ x9 ∧ x9 < 9 := ⟨hx9.1, hx9.2.2 (by decide)⟩
   refine WA.call2 (i := 10) hs (fun _ hs => hs.only Q2) Q6 Q0 Q0 (Yc.func Q0 fn211) (c_spec_StoreEntry _ _ _ _ _ _ ⟨(hs.okow (x := q) (F := F) Q1).entries⟩ (Flat.any hokx4) (Flat.any hokx5) (Flat.any hokx8) (Flat.any hokx9) Q7 (by simp only [TResponse.size] at *; omega)) ?_
   have hs0 := hs; clear hs; intro v w hb hR hs; clear hs
   obtain ⟨x10, rfl, hx10, hf10⟩ := hR
   obtain ⟨F10, hs⟩ := hf10.sat hs0 hb; clear hs0 hf10
   have hz10 := storeEntry_size_of hx10; simp only [TAddr.size, List.length_cons, List.length_nil] at hz10
   refine WA.s (i := 11) Q6 Q0 (Yr.storeB hs Q0 Q0 Q0 Q5 Q3 Q0 (by exact szf27)) (by rintro _ w hs; exact hs.only Q2) ?_
   clear hs; rintro _ w hs
   refine WA.done Q6 ?_
   refine At.blocknormal ?_
   refine At.then_ ?_
   refine WC.region ?_
   refine Qm ?_
   refine WL.p Q0 (Yl.sub_ Q0 Q0 Q7) ?_
   refine Qa ?_
   refine WL.nil ?_
   refine At.roundC (_, x10, _) (hs.only Q2) ⟨by rfl, by rfl, by rfl, trivial⟩ ⟨by rfl, trivial⟩ ?_ ?_
   ·
    show (m - 1).toNat < m.toNat
    omega
   ·
    refine ⟨by omega, by omega, ?_⟩
    omega
  ·
   refine WI.calld (i := 5) hs (T := 205) (b := b_) (c := c) Q2 (fun _ hs => hs.only Q2) Q0 Q0 (Yc.func Q0 fn118) (c_spec_l1Below c b_ _ _ (hs.cur Q1) (Apart.now hb_c hs)) ?_
   clear hs; intro v w ho hR hs
   obtain ⟨x11, rfl, hokx11, hx11, hf11⟩ := hR
   clear ho hf11
   replace hx11 : 0 ≤ x11 ∧ x11 < 5 := ⟨hx11.1, hx11.2.2 (by decide)⟩
   refine WA.p (i := 6) Q0 Q6 Q6 Q6 Q0 (hs.only Q2) (fun w hs => Yl.add Q0 Q0 Q7) ?_
   refine WA.two (i := 0) (j := 7) Q6 ?_ ?_
   ·
    refine WI.r (i := 0) Q0 Q0 (Yl.yr (Yl.loadAB agg27 Q0 hs Q1 Q0 Q0)) (by rintro _ _ ⟨rfl, rfl⟩; exact hs.only Q2) ?_
    rintro _ _ ⟨rfl, rfl⟩
    refine WA.calld (i := 7) hs (T := 205) (b := b_) (c := c) Q2 (fun _ hs => hs.only Q2) Q6 Q0 Q0 (Yc.func Q0 fn158) (c_spec_l10Response c b_ _ _ (show WfI _ from ⟨by omega, by omega⟩) (hs.cur Q1) (Apart.now hb_c hs)) ?_
    clear hs; intro v w ho hR hs
    obtain ⟨x12, rfl, hokx12, hx12, hf12⟩ := hR
    clear ho hf12
    have hn12 := hx12.1
    refine WA.calld (i := 9) hs (T := 205) (b := b_) (c := c) Q2 (fun _ hs => hs.only Q2) Q6 Q0 Q0 (Yc.func Q0 fn118) (c_spec_l1Below c b_ _ _ (hs.cur Q1) (Apart.now hb_c hs)) ?_
    clear hs; intro v w ho hR hs
    obtain ⟨x13, rfl, hokx13, hx13, hf13⟩ := hR
    clear ho hf13
    replace hx13 : 0 ≤ x13 ∧ x13 < 9 := ⟨hx13.1, hx13.2.2 (by decide)⟩
    refine WA.call2 (i := 10) hs (fun _ hs => hs.only Q2) Q6 Q0 Q0 (Yc.func Q0 fn211) (c_spec_StoreEntry _ _ _ _ _ _ ⟨(hs.okow (x := q) (F := F) Q1).entries⟩ (Flat.any hokx4) (Flat.any hokx5) (Flat.any hokx12) (Flat.any hokx13) Q7 (by simp only [TResponse.size] at *; omega)) ?_
    have hs0 := hs; clear hs; intro v w hb hR hs; clear hs
    obtain ⟨x14, rfl, hx14, hf14⟩ := hR
    obtain ⟨F14, hs⟩ := hf14.sat hs0 hb; clear hs0 hf14
    have hz14 := storeEntry_size_of hx14; simp only [TAddr.size, List.length_cons, List.length_nil] at hz14
    refine WA.s (i := 11) Q6 Q0 (Yr.storeB hs Q0 Q0 Q0 Q5 Q3 Q0 (by exact szf27)) (by rintro _ w hs; exact hs.only Q2) ?_
    clear hs; rintro _ w hs
    refine WA.done Q6 ?_
    refine At.blocknormal ?_
    refine At.then_ ?_
    refine WC.region ?_
    refine Qm ?_
    refine WL.p Q0 (Yl.sub_ Q0 Q0 Q7) ?_
    refine Qa ?_
    refine WL.nil ?_
    refine At.roundC (_, x14, _) (hs.only Q2) ⟨by rfl, by rfl, by rfl, trivial⟩ ⟨by rfl, trivial⟩ ?_ ?_
    ·
     show (m - 1).toNat < m.toNat
     omega
    ·
     refine ⟨by omega, by omega, ?_⟩
     omega
   ·
    refine WI.calld (i := 7) hs (T := 205) (b := b_) (c := c) Q2 (fun _ hs => hs.only Q2) Q0 Q0 (Yc.func Q0 fn158) (c_spec_l10Response c b_ _ _ (show WfI _ from ⟨by omega, by omega⟩) (hs.cur Q1) (Apart.now hb_c hs)) ?_
    clear hs; intro v w ho hR hs
    obtain ⟨x15, rfl, hokx15, hx15, hf15⟩ := hR
    clear ho hf15
    have hn15 := hx15.1
    refine WA.two (i := 0) (j := 9) Q6 ?_ ?_
    ·
     refine WI.r (i := 0) Q0 Q0 (Yl.yr (Yl.loadAB agg27 Q0 hs Q1 Q0 Q0)) (by rintro _ _ ⟨rfl, rfl⟩; exact hs.only Q2) ?_
     rintro _ _ ⟨rfl, rfl⟩
     refine WA.calld (i := 9) hs (T := 205) (b := b_) (c := c) Q2 (fun _ hs => hs.only Q2) Q6 Q0 Q0 (Yc.func Q0 fn118) (c_spec_l1Below c b_ _ _ (hs.cur Q1) (Apart.now hb_c hs)) ?_
     clear hs; intro v w ho hR hs
     obtain ⟨x16, rfl, hokx16, hx16, hf16⟩ := hR
     clear ho hf16
     replace hx16 : 0 ≤ x16 ∧ x16 < 9 := ⟨hx16.1, hx16.2.2 (by decide)⟩
     refine WA.call2 (i := 10) hs (fun _ hs => hs.only Q2) Q6 Q0 Q0 (Yc.func Q0 fn211) (c_spec_StoreEntry _ _ _ _ _ _ ⟨(hs.okow (x := q) (F := F) Q1).entries⟩ (Flat.any hokx4) (Flat.any hokx5) (Flat.any hokx15) (Flat.any hokx16) Q7 (by simp only [TResponse.size] at *; omega)) ?_
     have hs0 := hs; clear hs; intro v w hb hR hs; clear hs
     obtain ⟨x17, rfl, hx17, hf17⟩ := hR
     obtain ⟨F17, hs⟩ := hf17.sat hs0 hb; clear hs0 hf17
     have hz17 := storeEntry_size_of hx17; simp only [TAddr.size, List.length_cons, List.length_nil] at hz17
     refine WA.s (i := 11) Q6 Q0 (Yr.storeB hs Q0 Q0 Q0 Q5 Q3 Q0 (by exact szf27)) (by rintro _ w hs; exact hs.only Q2) ?_
     clear hs; rintro _ w hs
     refine WA.done Q6 ?_
     refine At.blocknormal ?_
     refine At.then_ ?_
     refine WC.region ?_
     refine Qm ?_
     refine WL.p Q0 (Yl.sub_ Q0 Q0 Q7) ?_
     refine Qa ?_
     refine WL.nil ?_
     refine At.roundC (_, x17, _) (hs.only Q2) ⟨by rfl, by rfl, by rfl, trivial⟩ ⟨by rfl, trivial⟩ ?_ ?_
     ·
      show (m - 1).toNat < m.toNat
      omega
     ·
      refine ⟨by omega, by omega, ?_⟩
      omega
    ·
     refine WI.calld (i := 9) hs (T := 205) (b := b_) (c := c) Q2 (fun _ hs => hs.only Q2) Q0 Q0 (Yc.func Q0 fn118) (c_spec_l1Below c b_ _ _ (hs.cur Q1) (Apart.now hb_c hs)) ?_
     clear hs; intro v w ho hR hs
     obtain ⟨x18, rfl, hokx18, hx18, hf18⟩ := hR
     clear ho hf18
     replace hx18 : 0 ≤ x18 ∧ x18 < 9 := ⟨hx18.1, hx18.2.2 (by decide)⟩
     refine WA.r (i := 0) Q6 Q0 Q0 (Yl.yr (Yl.loadAB agg27 Q0 hs Q1 Q0 Q0)) (by rintro _ _ ⟨rfl, rfl⟩; exact hs.only Q2) ?_
     rintro _ _ ⟨rfl, rfl⟩
     refine WA.call2 (i := 10) hs (fun _ hs => hs.only Q2) Q6 Q0 Q0 (Yc.func Q0 fn211) (c_spec_StoreEntry _ _ _ _ _ _ ⟨(hs.okow (x := q) (F := F) Q1).entries⟩ (Flat.any hokx4) (Flat.any hokx5) (Flat.any hokx15) (Flat.any hokx18) Q7 (by simp only [TResponse.size] at *; omega)) ?_
     have hs0 := hs; clear hs; intro v w hb hR hs; clear hs
     obtain ⟨x19, rfl, hx19, hf19⟩ := hR
     obtain ⟨F19, hs⟩ := hf19.sat hs0 hb; clear hs0 hf19
     have hz19 := storeEntry_size_of hx19; simp only [TAddr.size, List.length_cons, List.length_nil] at hz19
     refine WA.s (i := 11) Q6 Q0 (Yr.storeB hs Q0 Q0 Q0 Q5 Q3 Q0 (by exact szf27)) (by rintro _ w hs; exact hs.only Q2) ?_
     clear hs; rintro _ w hs
     refine WA.done Q6 ?_
     refine At.blocknormal ?_
     refine At.then_ ?_
     refine WC.region ?_
     refine Qm ?_
     refine WL.p Q0 (Yl.sub_ Q0 Q0 Q7) ?_
     refine Qa ?_
     refine WL.nil ?_
     refine At.roundC (_, x19, _) (hs.only Q2) ⟨by rfl, by rfl, by rfl, trivial⟩ ⟨by rfl, trivial⟩ ?_ ?_
     ·
      show (m - 1).toNat < m.toNat
      omega
     ·
      refine ⟨by omega, by omega, ?_⟩
      omega
 ·
  replace h1 := of_decide_eq_false h1
  refine WC.exit ?_
  refine At.thenexit ?_
  refine At.thenexit ?_
  refine At.blockexit ?_
  refine At.then_ ?_
  refine WC.seq ?_
  refine WL.p Q0 (Yl.loadAB agg27 Q0 hs Q1 Q0 Q0) ?_
  refine WL.s (Yr.storeB hs Q0 Q0 Q0 Q5 Q3 Q0 (by exact szf27)) ?_
  clear hs; rintro _ w hs
  refine WL.next ?_
  refine WC.ret ?_
  refine fin1c rfl agg27 Q0 hs Q1 Q0 ?_
  refine RetD.mk hs Q1 ?_
  refine ⟨q, rfl, trivial, ?_, ?_⟩
  ·
   repeat' apply And.intro
   all_goals (try dsimp only)
   all_goals first | trivial | assumption | omega | ((try simp only [List.length_append, List.length_cons, List.length_nil, lsz_app, lsz_one, lsz_cons, lsz_nil, TAddr.size, TResponse.size, TRequest.size, TPolicy.size, TEntry.size, TCache.size, strsz, TLine.size, TSent.size, TServer.size, TFile.size, List.map_append, List.map_cons, List.map_nil, PServer.lg, PPolicy.lg, PCache.lg] at *); first | omega | assumption)
  ·
   exact hs.freshD (x := q) (F := F) Q2

set_option maxRecDepth 20000 in
theorem c_spec_l13Any (c : Nat) (b_ : Sl UInt8) (w : World)   (h_c : CurAt 205 b_ c w) (hb_c : CurB w b_ c) : Calls Tryz.prog 175 [bp c 0].toArray w (RetD 205 b_ c w (fun v w' => ∃ (x : PCache), v = .agg (Ph.enc x).toArray ∧ (True) ∧ (x.lg.size ≤ 20000) ∧ Fresh w x w')) := by
 refine enterN 49 Tryz.func175 rfl rfl rfl ?_
 have hs := Sat.startC h_c
 refine WC.seq ?_
 refine WL.r Q0 (Yr.alloc hs zt27) ?_
 clear hs; rintro _ w ⟨b1, rfl, hb, hs⟩; clear hb
 refine WL.next ?_
 refine WC.seq ?_
 refine Qm ?_
 refine WL.calld hs (T := 205) (b := b_) (c := c) Q2 Q0 (Yc.func Q0 fn239) (c_spec_l13Cache c b_ _ (hs.cur Q1) (Apart.now hb_c hs)) ?_
 clear hs; intro v w ho hR hs
 obtain ⟨x2, rfl, _, hx2, hf2⟩ := hR
 obtain ⟨F2, hs⟩ := hs.addF ho hf2
 clear ho hf2
 obtain ⟨K3_0, hfl3, hs⟩ := PCache.split (hs.sel (D := [ow x2 F2]) Q2)
 try simp only [List.cons_append, List.nil_append] at hs
 refine WL.r Q0 (Yr.alloc hs zt27) ?_
 clear hs; rintro _ w ⟨b4, rfl, hb, hs⟩; clear hb
 refine WL.s (Yr.storeB hs Q0 Q0 Q0 Q5 Q3 Q0 (by exact szf27)) ?_
 clear hs; rintro _ w hs
 refine WL.next ?_
 refine WC.seq' ?_
 refine WC.seq ?_
 refine Qm ?_
 refine WL.calld hs (T := 205) (b := b_) (c := c) Q2 Q0 (Yc.func Q0 fn118) (c_spec_l1Below c b_ _ _ (hs.cur Q1) (Apart.now hb_c hs)) ?_
 clear hs; intro v w ho hR hs
 obtain ⟨x5, rfl, hokx5, hx5, hf5⟩ := hR
 clear ho hf5
 replace hx5 : 0 ≤ x5 ∧ x5 < 12 := ⟨hx5.1, hx5.2.2 (by decide)⟩
 refine WL.next ?_
 refine WC.block ?_
 refine WC.seq ?_
 refine WL.p Q0 (Yl.eqi Q0 Q0) ?_
 refine Qa ?_
 refine WL.next ?_
 refine WC.condS Q0 (fun h1 => ?_) (fun h1 => ?_)
 ·
  replace h1 := of_decide_eq_true h1
  refine WC.anyX (K := [box b4 _ _, ow x2.entries K3_0]) mixed hs Q2 ?_
  clear hs; intro w hs
  refine WA.p (i := 0) Q0 Q6 Q6 Q6 Q0 (hs.only Q2) (fun w hs => Yl.fieldAddr fa27_0 Q0) ?_
  refine WA.p (i := 2) Q0 Q6 Q6 Q6 Q0 (hs.only Q2) (fun w hs => Yl.move Q0) ?_
  refine WA.p (i := 5) Q0 Q6 Q6 Q6 Q0 (hs.only Q2) (fun w hs => Yl.move Q0) ?_
  refine WA.p (i := 7) Q0 Q6 Q6 Q6 Q0 (hs.only Q2) (fun w hs => Yl.move Q0) ?_
  refine WA.two (i := 1) (j := 3) Q6 ?_ ?_
  ·
   refine WI.r (i := 1) Q0 Q0 (Yl.yr (Yl.loadB sca25 Q0 hs Q1 Q0)) (by rintro _ _ ⟨rfl, rfl⟩; exact hs.only Q2) ?_
   rintro _ _ ⟨rfl, rfl⟩
   refine WA.r (i := 3) Q6 Q0 Q0 (Yr.buildSlice hs sll34 Q0 Q0 Q0 Q4 Q0) (by rintro _ w ⟨b6, rfl, hb, hs⟩; exact hs.only Q2) ?_
   clear hs; rintro _ w ⟨b6, rfl, hb, hs⟩; clear hb
   replace hs := Sat.boxow (l := ([([104, 111, 109, 101] : Str), ([] : Str)] : List Str)) (hs.sel (D := [box b6 _ _]) Q2) rfl rfl (by decide) (ownL_mk_flat (lit_str Q0))
   try simp only [List.cons_append, List.nil_append] at hs
   refine WA.calld (i := 4) hs (T := 205) (b := b_) (c := c) Q2 (fun _ hs => hs.only Q2) Q6 Q0 Q0 (Yc.func Q0 fn102) (c_spec_l1Str c b_ (⟨[([104, 111, 109, 101] : Str), ([] : Str)], some ⟨b6, 0, none⟩, 2⟩ : Sl Str) _ (Apart.own (s := (⟨[([104, 111, 109, 101] : Str), ([] : Str)], some ⟨b6, 0, none⟩, 2⟩ : Sl Str)) (F := [b6]) hs Q2) (by exact Nat.succ_pos _) (hs.cur Q1) (Apart.now hb_c hs)) ?_
   clear hs; intro v w ho hR hs
   obtain ⟨x7, rfl, hokx7, hx7, hf7⟩ := hR
   clear ho hf7
   replace hx7 : x7 ∈ ([([104, 111, 109, 101] : Str), ([] : Str)] : List Str) := hx7
   have hn7 := mem_len 4 hx7 Q0
   refine WA.calld (i := 6) hs (T := 205) (b := b_) (c := c) Q2 (fun _ hs => hs.only Q2) Q6 Q0 Q0 (Yc.func Q0 fn120) (c_spec_l4Any c b_ _ (hs.cur Q1) (Apart.now hb_c hs)) ?_
   clear hs; intro v w ho hR hs
   obtain ⟨x8, rfl, hokx8, hx8, hf8⟩ := hR
   clear ho hf8
   have hn8 := hx8.1; have hm8 := hx8.2
   refine WA.calld (i := 8) hs (T := 205) (b := b_) (c := c) Q2 (fun _ hs => hs.only Q2) Q6 Q0 Q0 (Yc.func Q0 fn159) (c_spec_l10Any c b_ _ (hs.cur Q1) (Apart.now hb_c hs)) ?_
   clear hs; intro v w ho hR hs
   obtain ⟨x9, rfl, hokx9, hx9, hf9⟩ := hR
   clear ho hf9
   refine WA.p (i := 9) Q0 Q6 Q6 Q6 Q0 (hs.only Q2) (fun w hs => Yl.build bt173 Q0 Q4) ?_
   refine WA.r (i := 10) Q6 Q0 Q0 (Yr.buildSlice hs sll25 Q0 Q0 Q0 Q4 Q0) (by rintro _ w ⟨b10, rfl, hb, hs⟩; exact hs.only Q2) ?_
   clear hs; rintro _ w ⟨b10, rfl, hb, hs⟩; clear hb
   refine WA.r (i := 11) Q6 Q0 Q0 (Yr.append (s := x2.entries) (F := K3_0) hs elt25 Q2 Q0 Q0 rfl (xs := [(⟨x7, (⟨x8.host, x8.path⟩ : TAddr), (⟨x9.status, x9.kind, x9.body, x9.age, x9.shares, x9.policy⟩ : TResponse), 0⟩ : TEntry)]) (hs.box_cells Q1) (by intro x hx; obtain rfl := List.mem_singleton.1 hx; exact ⟨(by first | exact (Flat.any hokx7) | trivial | assumption | exact Flat.any (by assumption) | exact ⟨by omega, by omega⟩ | (show WfS _; unfold WfS; omega) | (show WfS _; unfold WfS; simp only [List.length_append, List.length_cons, List.length_nil] at *; omega) | (refine Ph.old ?_ hs; assumption)), ⟨(by first | exact (Flat.any hokx8).host | trivial | assumption | exact Flat.any (by assumption) | exact ⟨by omega, by omega⟩ | (show WfS _; unfold WfS; omega) | (show WfS _; unfold WfS; simp only [List.length_append, List.length_cons, List.length_nil] at *; omega) | (refine Ph.old ?_ hs; assumption)), (by first | exact (Flat.any hokx8).path | trivial | assumption | exact Flat.any (by assumption) | exact ⟨by omega, by omega⟩ | (show WfS _; unfold WfS; omega) | (show WfS _; unfold WfS; simp only [List.length_append, List.length_cons, List.length_nil] at *; omega) | (refine Ph.old ?_ hs; assumption))⟩, ⟨(by first | exact (Flat.any hokx9).status | trivial | assumption | exact Flat.any (by assumption) | exact ⟨by omega, by omega⟩ | (show WfS _; unfold WfS; omega) | (show WfS _; unfold WfS; simp only [List.length_append, List.length_cons, List.length_nil] at *; omega) | (refine Ph.old ?_ hs; assumption)), (by first | exact (Flat.any hokx9).kind | trivial | assumption | exact Flat.any (by assumption) | exact ⟨by omega, by omega⟩ | (show WfS _; unfold WfS; omega) | (show WfS _; unfold WfS; simp only [List.length_append, List.length_cons, List.length_nil] at *; omega) | (refine Ph.old ?_ hs; assumption)), (by first | exact (Flat.any hokx9).body | trivial | assumption | exact Flat.any (by assumption) | exact ⟨by omega, by omega⟩ | (show WfS _; unfold WfS; omega) | (show WfS _; unfold WfS; simp only [List.length_append, List.length_cons, List.length_nil] at *; omega) | (refine Ph.old ?_ hs; assumption)), (by first | exact (Flat.any hokx9).age | trivial | assumption | exact Flat.any (by assumption) | exact ⟨by omega, by omega⟩ | (show WfS _; unfold WfS; omega) | (show WfS _; unfold WfS; simp only [List.length_append, List.length_cons, List.length_nil] at *; omega) | (refine Ph.old ?_ hs; assumption)), (by first | exact (Flat.any hokx9).shares | trivial | assumption | exact Flat.any (by assumption) | exact ⟨by omega, by omega⟩ | (show WfS _; unfold WfS; omega) | (show WfS _; unfold WfS; simp only [List.length_append, List.length_cons, List.length_nil] at *; omega) | (refine Ph.old ?_ hs; assumption)), (by first | exact (Flat.any hokx9).policy | trivial | assumption | exact Flat.any (by assumption) | exact ⟨by omega, by omega⟩ | (show WfS _; unfold WfS; omega) | (show WfS _; unfold WfS; simp only [List.length_append, List.length_cons, List.length_nil] at *; omega) | (refine Ph.old ?_ hs; assumption))⟩, (by first | exact (show WfI 0 from ⟨by omega, by omega⟩) | trivial | assumption | exact Flat.any (by assumption) | exact ⟨by omega, by omega⟩ | (show WfS _; unfold WfS; omega) | (show WfS _; unfold WfS; simp only [List.length_append, List.length_cons, List.length_nil] at *; omega) | (refine Ph.old ?_ hs; assumption))⟩) (by first | (unfold maxLen; omega) | omega | ((try simp only [lsz, strsz, List.length_map, PCache.lg, TCache.size, PPolicy.lg, TPolicy.size, List.length_cons, List.length_nil] at *); first | (unfold maxLen; omega) | omega)) (by first | (unfold maxLen; omega) | omega | ((try simp only [lsz, strsz, List.length_map, PCache.lg, TCache.size, PPolicy.lg, TPolicy.size, List.length_cons, List.length_nil] at *); first | (unfold maxLen; omega) | omega))) (by rintro _ w ⟨s11, F11, rfl, hl11, hs⟩; exact hs.only Q2) ?_
   clear hs; rintro _ w ⟨s11, F11, rfl, hl11, hs⟩
   refine WA.p (i := 12) Q0 Q6 Q6 Q6 Q0 (hs.only Q2) (fun w hs => Yl.fieldAddr fa27_0 Q0) ?_
   refine WA.s (i := 13) Q6 Q0 (Yr.storeB hs Q0 Q0 Q0 Q5 Q3 Q0 (by exact szf25)) (by rintro _ w hs; exact hs.only Q2) ?_
   clear hs; rintro _ w hs
   refine WA.done Q6 ?_
   refine At.blocknormal ?_
   refine At.then_ ?_
   refine WC.seq ?_
   refine WL.p Q0 (Yl.loadAB agg27 Q0 hs Q1 Q0 Q0) ?_
   refine WL.s (Yr.storeB hs Q0 Q0 Q0 Q5 Q3 Q0 (by exact szf27)) ?_
   clear hs; rintro _ w hs
   refine WL.next ?_
   refine WC.ret ?_
   refine fin1c rfl agg27 Q0 hs Q1 Q0 ?_
   obtain ⟨Fj12, hs⟩ : ∃ F, Sat _ _ _ (ow (⟨s11⟩ : PCache) F :: _) := ⟨_, PCache.join (⟨s11⟩ : PCache) (hs.sel (D := [ow s11 F11]) Q2) ⟩
   try simp only [List.cons_append, List.nil_append] at hs
   refine RetD.mk hs Q1 ?_
   refine ⟨(⟨s11⟩ : PCache), rfl, trivial, ?_, ?_⟩
   ·
    repeat' apply And.intro
    all_goals (try dsimp only)
    all_goals first | trivial | assumption | omega | ((try simp only [List.length_append, List.length_cons, List.length_nil, lsz_app, lsz_one, lsz_cons, lsz_nil, TAddr.size, TResponse.size, TRequest.size, TPolicy.size, TEntry.size, TCache.size, strsz, TLine.size, TSent.size, TServer.size, TFile.size, List.map_append, List.map_cons, List.map_nil, PServer.lg, PPolicy.lg, PCache.lg, hl11] at *); first | omega | assumption)
   ·
    exact hs.freshD (x := (⟨s11⟩ : PCache)) (F := Fj12) Q2
  ·
   refine WI.r (i := 3) Q0 Q0 (Yr.buildSlice hs sll34 Q0 Q0 Q0 Q4 Q0) (by rintro _ w ⟨b13, rfl, hb, hs⟩; exact hs.only Q2) ?_
   clear hs; rintro _ w ⟨b13, rfl, hb, hs⟩; clear hb
   refine WA.two (i := 1) (j := 4) Q6 ?_ ?_
   ·
    refine WI.r (i := 1) Q0 Q0 (Yl.yr (Yl.loadB sca25 Q0 hs Q1 Q0)) (by rintro _ _ ⟨rfl, rfl⟩; exact hs.only Q2) ?_
    rintro _ _ ⟨rfl, rfl⟩
    replace hs := Sat.boxow (l := ([([104, 111, 109, 101] : Str), ([] : Str)] : List Str)) (hs.sel (D := [box b13 _ _]) Q2) rfl rfl (by decide) (ownL_mk_flat (lit_str Q0))
    try simp only [List.cons_append, List.nil_append] at hs
    refine WA.calld (i := 4) hs (T := 205) (b := b_) (c := c) Q2 (fun _ hs => hs.only Q2) Q6 Q0 Q0 (Yc.func Q0 fn102) (c_spec_l1Str c b_ (⟨[([104, 111, 109, 101] : Str), ([] : Str)], some ⟨b13, 0, none⟩, 2⟩ : Sl Str) _ (Apart.own (s := (⟨[([104, 111, 109, 101] : Str), ([] : Str)], some ⟨b13, 0, none⟩, 2⟩ : Sl Str)) (F := [b13]) hs Q2) (by exact Nat.succ_pos _) (hs.cur Q1) (Apart.now hb_c hs)) ?_
    clear hs; intro v w ho hR hs
    obtain ⟨x14, rfl, hokx14, hx14, hf14⟩ := hR
    clear ho hf14
    replace hx14 : x14 ∈ ([([104, 111, 109, 101] : Str), ([] : Str)] : List Str) := hx14
    have hn14 := mem_len 4 hx14 Q0
    refine WA.calld (i := 6) hs (T := 205) (b := b_) (c := c) Q2 (fun _ hs => hs.only Q2) Q6 Q0 Q0 (Yc.func Q0 fn120) (c_spec_l4Any c b_ _ (hs.cur Q1) (Apart.now hb_c hs)) ?_
    clear hs; intro v w ho hR hs
    obtain ⟨x15, rfl, hokx15, hx15, hf15⟩ := hR
    clear ho hf15
    have hn15 := hx15.1; have hm15 := hx15.2
    refine WA.calld (i := 8) hs (T := 205) (b := b_) (c := c) Q2 (fun _ hs => hs.only Q2) Q6 Q0 Q0 (Yc.func Q0 fn159) (c_spec_l10Any c b_ _ (hs.cur Q1) (Apart.now hb_c hs)) ?_
    clear hs; intro v w ho hR hs
    obtain ⟨x16, rfl, hokx16, hx16, hf16⟩ := hR
    clear ho hf16
    refine WA.p (i := 9) Q0 Q6 Q6 Q6 Q0 (hs.only Q2) (fun w hs => Yl.build bt173 Q0 Q4) ?_
    refine WA.r (i := 10) Q6 Q0 Q0 (Yr.buildSlice hs sll25 Q0 Q0 Q0 Q4 Q0) (by rintro _ w ⟨b17, rfl, hb, hs⟩; exact hs.only Q2) ?_
    clear hs; rintro _ w ⟨b17, rfl, hb, hs⟩; clear hb
    refine WA.r (i := 11) Q6 Q0 Q0 (Yr.append (s := x2.entries) (F := K3_0) hs elt25 Q2 Q0 Q0 rfl (xs := [(⟨x14, (⟨x15.host, x15.path⟩ : TAddr), (⟨x16.status, x16.kind, x16.body, x16.age, x16.shares, x16.policy⟩ : TResponse), 0⟩ : TEntry)]) (hs.box_cells Q1) (by intro x hx; obtain rfl := List.mem_singleton.1 hx; exact ⟨(by first | exact (Flat.any hokx14) | trivial | assumption | exact Flat.any (by assumption) | exact ⟨by omega, by omega⟩ | (show WfS _; unfold WfS; omega) | (show WfS _; unfold WfS; simp only [List.length_append, List.length_cons, List.length_nil] at *; omega) | (refine Ph.old ?_ hs; assumption)), ⟨(by first | exact (Flat.any hokx15).host | trivial | assumption | exact Flat.any (by assumption) | exact ⟨by omega, by omega⟩ | (show WfS _; unfold WfS; omega) | (show WfS _; unfold WfS; simp only [List.length_append, List.length_cons, List.length_nil] at *; omega) | (refine Ph.old ?_ hs; assumption)), (by first | exact (Flat.any hokx15).path | trivial | assumption | exact Flat.any (by assumption) | exact ⟨by omega, by omega⟩ | (show WfS _; unfold WfS; omega) | (show WfS _; unfold WfS; simp only [List.length_append, List.length_cons, List.length_nil] at *; omega) | (refine Ph.old ?_ hs; assumption))⟩, ⟨(by first | exact (Flat.any hokx16).status | trivial | assumption | exact Flat.any (by assumption) | exact ⟨by omega, by omega⟩ | (show WfS _; unfold WfS; omega) | (show WfS _; unfold WfS; simp only [List.length_append, List.length_cons, List.length_nil] at *; omega) | (refine Ph.old ?_ hs; assumption)), (by first | exact (Flat.any hokx16).kind | trivial | assumption | exact Flat.any (by assumption) | exact ⟨by omega, by omega⟩ | (show WfS _; unfold WfS; omega) | (show WfS _; unfold WfS; simp only [List.length_append, List.length_cons, List.length_nil] at *; omega) | (refine Ph.old ?_ hs; assumption)), (by first | exact (Flat.any hokx16).body | trivial | assumption | exact Flat.any (by assumption) | exact ⟨by omega, by omega⟩ | (show WfS _; unfold WfS; omega) | (show WfS _; unfold WfS; simp only [List.length_append, List.length_cons, List.length_nil] at *; omega) | (refine Ph.old ?_ hs; assumption)), (by first | exact (Flat.any hokx16).age | trivial | assumption | exact Flat.any (by assumption) | exact ⟨by omega, by omega⟩ | (show WfS _; unfold WfS; omega) | (show WfS _; unfold WfS; simp only [List.length_append, List.length_cons, List.length_nil] at *; omega) | (refine Ph.old ?_ hs; assumption)), (by first | exact (Flat.any hokx16).shares | trivial | assumption | exact Flat.any (by assumption) | exact ⟨by omega, by omega⟩ | (show WfS _; unfold WfS; omega) | (show WfS _; unfold WfS; simp only [List.length_append, List.length_cons, List.length_nil] at *; omega) | (refine Ph.old ?_ hs; assumption)), (by first | exact (Flat.any hokx16).policy | trivial | assumption | exact Flat.any (by assumption) | exact ⟨by omega, by omega⟩ | (show WfS _; unfold WfS; omega) | (show WfS _; unfold WfS; simp only [List.length_append, List.length_cons, List.length_nil] at *; omega) | (refine Ph.old ?_ hs; assumption))⟩, (by first | exact (show WfI 0 from ⟨by omega, by omega⟩) | trivial | assumption | exact Flat.any (by assumption) | exact ⟨by omega, by omega⟩ | (show WfS _; unfold WfS; omega) | (show WfS _; unfold WfS; simp only [List.length_append, List.length_cons, List.length_nil] at *; omega) | (refine Ph.old ?_ hs; assumption))⟩) (by first | (unfold maxLen; omega) | omega | ((try simp only [lsz, strsz, List.length_map, PCache.lg, TCache.size, PPolicy.lg, TPolicy.size, List.length_cons, List.length_nil] at *); first | (unfold maxLen; omega) | omega)) (by first | (unfold maxLen; omega) | omega | ((try simp only [lsz, strsz, List.length_map, PCache.lg, TCache.size, PPolicy.lg, TPolicy.size, List.length_cons, List.length_nil] at *); first | (unfold maxLen; omega) | omega))) (by rintro _ w ⟨s18, F18, rfl, hl18, hs⟩; exact hs.only Q2) ?_
    clear hs; rintro _ w ⟨s18, F18, rfl, hl18, hs⟩
    refine WA.p (i := 12) Q0 Q6 Q6 Q6 Q0 (hs.only Q2) (fun w hs => Yl.fieldAddr fa27_0 Q0) ?_
    refine WA.s (i := 13) Q6 Q0 (Yr.storeB hs Q0 Q0 Q0 Q5 Q3 Q0 (by exact szf25)) (by rintro _ w hs; exact hs.only Q2) ?_
    clear hs; rintro _ w hs
    refine WA.done Q6 ?_
    refine At.blocknormal ?_
    refine At.then_ ?_
    refine WC.seq ?_
    refine WL.p Q0 (Yl.loadAB agg27 Q0 hs Q1 Q0 Q0) ?_
    refine WL.s (Yr.storeB hs Q0 Q0 Q0 Q5 Q3 Q0 (by exact szf27)) ?_
    clear hs; rintro _ w hs
    refine WL.next ?_
    refine WC.ret ?_
    refine fin1c rfl agg27 Q0 hs Q1 Q0 ?_
    obtain ⟨Fj19, hs⟩ : ∃ F, Sat _ _ _ (ow (⟨s18⟩ : PCache) F :: _) := ⟨_, PCache.join (⟨s18⟩ : PCache) (hs.sel (D := [ow s18 F18]) Q2) ⟩
    try simp only [List.cons_append, List.nil_append] at hs
    refine RetD.mk hs Q1 ?_
    refine ⟨(⟨s18⟩ : PCache), rfl, trivial, ?_, ?_⟩
    ·
     repeat' apply And.intro
     all_goals (try dsimp only)
     all_goals first | trivial | assumption | omega | ((try simp only [List.length_append, List.length_cons, List.length_nil, lsz_app, lsz_one, lsz_cons, lsz_nil, TAddr.size, TResponse.size, TRequest.size, TPolicy.size, TEntry.size, TCache.size, strsz, TLine.size, TSent.size, TServer.size, TFile.size, List.map_append, List.map_cons, List.map_nil, PServer.lg, PPolicy.lg, PCache.lg, hl18] at *); first | omega | assumption)
    ·
     exact hs.freshD (x := (⟨s18⟩ : PCache)) (F := Fj19) Q2
   ·
    replace hs := Sat.boxow (l := ([([104, 111, 109, 101] : Str), ([] : Str)] : List Str)) (hs.sel (D := [box b13 _ _]) Q2) rfl rfl (by decide) (ownL_mk_flat (lit_str Q0))
    try simp only [List.cons_append, List.nil_append] at hs
    refine WI.calld (i := 4) hs (T := 205) (b := b_) (c := c) Q2 (fun _ hs => hs.only Q2) Q0 Q0 (Yc.func Q0 fn102) (c_spec_l1Str c b_ (⟨[([104, 111, 109, 101] : Str), ([] : Str)], some ⟨b13, 0, none⟩, 2⟩ : Sl Str) _ (Apart.own (s := (⟨[([104, 111, 109, 101] : Str), ([] : Str)], some ⟨b13, 0, none⟩, 2⟩ : Sl Str)) (F := [b13]) hs Q2) (by exact Nat.succ_pos _) (hs.cur Q1) (Apart.now hb_c hs)) ?_
    clear hs; intro v w ho hR hs
    obtain ⟨x20, rfl, hokx20, hx20, hf20⟩ := hR
    clear ho hf20
    replace hx20 : x20 ∈ ([([104, 111, 109, 101] : Str), ([] : Str)] : List Str) := hx20
    have hn20 := mem_len 4 hx20 Q0
    refine WA.two (i := 1) (j := 6) Q6 ?_ ?_
    ·
     refine WI.r (i := 1) Q0 Q0 (Yl.yr (Yl.loadB sca25 Q0 hs Q1 Q0)) (by rintro _ _ ⟨rfl, rfl⟩; exact hs.only Q2) ?_
     rintro _ _ ⟨rfl, rfl⟩
     refine WA.calld (i := 6) hs (T := 205) (b := b_) (c := c) Q2 (fun _ hs => hs.only Q2) Q6 Q0 Q0 (Yc.func Q0 fn120) (c_spec_l4Any c b_ _ (hs.cur Q1) (Apart.now hb_c hs)) ?_
     clear hs; intro v w ho hR hs
     obtain ⟨x21, rfl, hokx21, hx21, hf21⟩ := hR
     clear ho hf21
     have hn21 := hx21.1; have hm21 := hx21.2
     refine WA.calld (i := 8) hs (T := 205) (b := b_) (c := c) Q2 (fun _ hs => hs.only Q2) Q6 Q0 Q0 (Yc.func Q0 fn159) (c_spec_l10Any c b_ _ (hs.cur Q1) (Apart.now hb_c hs)) ?_
     clear hs; intro v w ho hR hs
     obtain ⟨x22, rfl, hokx22, hx22, hf22⟩ := hR
     clear ho hf22
     refine WA.p (i := 9) Q0 Q6 Q6 Q6 Q0 (hs.only Q2) (fun w hs => Yl.build bt173 Q0 Q4) ?_
     refine WA.r (i := 10) Q6 Q0 Q0 (Yr.buildSlice hs sll25 Q0 Q0 Q0 Q4 Q0) (by rintro _ w ⟨b23, rfl, hb, hs⟩; exact hs.only Q2) ?_
     clear hs; rintro _ w ⟨b23, rfl, hb, hs⟩; clear hb
     refine WA.r (i := 11) Q6 Q0 Q0 (Yr.append (s := x2.entries) (F := K3_0) hs elt25 Q2 Q0 Q0 rfl (xs := [(⟨x20, (⟨x21.host, x21.path⟩ : TAddr), (⟨x22.status, x22.kind, x22.body, x22.age, x22.shares, x22.policy⟩ : TResponse), 0⟩ : TEntry)]) (hs.box_cells Q1) (by intro x hx; obtain rfl := List.mem_singleton.1 hx; exact ⟨(by first | exact (Flat.any hokx20) | trivial | assumption | exact Flat.any (by assumption) | exact ⟨by omega, by omega⟩ | (show WfS _; unfold WfS; omega) | (show WfS _; unfold WfS; simp only [List.length_append, List.length_cons, List.length_nil] at *; omega) | (refine Ph.old ?_ hs; assumption)), ⟨(by first | exact (Flat.any hokx21).host | trivial | assumption | exact Flat.any (by assumption) | exact ⟨by omega, by omega⟩ | (show WfS _; unfold WfS; omega) | (show WfS _; unfold WfS; simp only [List.length_append, List.length_cons, List.length_nil] at *; omega) | (refine Ph.old ?_ hs; assumption)), (by first | exact (Flat.any hokx21).path | trivial | assumption | exact Flat.any (by assumption) | exact ⟨by omega, by omega⟩ | (show WfS _; unfold WfS; omega) | (show WfS _; unfold WfS; simp only [List.length_append, List.length_cons, List.length_nil] at *; omega) | (refine Ph.old ?_ hs; assumption))⟩, ⟨(by first | exact (Flat.any hokx22).status | trivial | assumption | exact Flat.any (by assumption) | exact ⟨by omega, by omega⟩ | (show WfS _; unfold WfS; omega) | (show WfS _; unfold WfS; simp only [List.length_append, List.length_cons, List.length_nil] at *; omega) | (refine Ph.old ?_ hs; assumption)), (by first | exact (Flat.any hokx22).kind | trivial | assumption | exact Flat.any (by assumption) | exact ⟨by omega, by omega⟩ | (show WfS _; unfold WfS; omega) | (show WfS _; unfold WfS; simp only [List.length_append, List.length_cons, List.length_nil] at *; omega) | (refine Ph.old ?_ hs; assumption)), (by first | exact (Flat.any hokx22).body | trivial | assumption | exact Flat.any (by assumption) | exact ⟨by omega, by omega⟩ | (show WfS _; unfold WfS; omega) | (show WfS _; unfold WfS; simp only [List.length_append, List.length_cons, List.length_nil] at *; omega) | (refine Ph.old ?_ hs; assumption)), (by first | exact (Flat.any hokx22).age | trivial | assumption | exact Flat.any (by assumption) | exact ⟨by omega, by omega⟩ | (show WfS _; unfold WfS; omega) | (show WfS _; unfold WfS; simp only [List.length_append, List.length_cons, List.length_nil] at *; omega) | (refine Ph.old ?_ hs; assumption)), (by first | exact (Flat.any hokx22).shares | trivial | assumption | exact Flat.any (by assumption) | exact ⟨by omega, by omega⟩ | (show WfS _; unfold WfS; omega) | (show WfS _; unfold WfS; simp only [List.length_append, List.length_cons, List.length_nil] at *; omega) | (refine Ph.old ?_ hs; assumption)), (by first | exact (Flat.any hokx22).policy | trivial | assumption | exact Flat.any (by assumption) | exact ⟨by omega, by omega⟩ | (show WfS _; unfold WfS; omega) | (show WfS _; unfold WfS; simp only [List.length_append, List.length_cons, List.length_nil] at *; omega) | (refine Ph.old ?_ hs; assumption))⟩, (by first | exact (show WfI 0 from ⟨by omega, by omega⟩) | trivial | assumption | exact Flat.any (by assumption) | exact ⟨by omega, by omega⟩ | (show WfS _; unfold WfS; omega) | (show WfS _; unfold WfS; simp only [List.length_append, List.length_cons, List.length_nil] at *; omega) | (refine Ph.old ?_ hs; assumption))⟩) (by first | (unfold maxLen; omega) | omega | ((try simp only [lsz, strsz, List.length_map, PCache.lg, TCache.size, PPolicy.lg, TPolicy.size, List.length_cons, List.length_nil] at *); first | (unfold maxLen; omega) | omega)) (by first | (unfold maxLen; omega) | omega | ((try simp only [lsz, strsz, List.length_map, PCache.lg, TCache.size, PPolicy.lg, TPolicy.size, List.length_cons, List.length_nil] at *); first | (unfold maxLen; omega) | omega))) (by rintro _ w ⟨s24, F24, rfl, hl24, hs⟩; exact hs.only Q2) ?_
     clear hs; rintro _ w ⟨s24, F24, rfl, hl24, hs⟩
     refine WA.p (i := 12) Q0 Q6 Q6 Q6 Q0 (hs.only Q2) (fun w hs => Yl.fieldAddr fa27_0 Q0) ?_
     refine WA.s (i := 13) Q6 Q0 (Yr.storeB hs Q0 Q0 Q0 Q5 Q3 Q0 (by exact szf25)) (by rintro _ w hs; exact hs.only Q2) ?_
     clear hs; rintro _ w hs
     refine WA.done Q6 ?_
     refine At.blocknormal ?_
     refine At.then_ ?_
     refine WC.seq ?_
     refine WL.p Q0 (Yl.loadAB agg27 Q0 hs Q1 Q0 Q0) ?_
     refine WL.s (Yr.storeB hs Q0 Q0 Q0 Q5 Q3 Q0 (by exact szf27)) ?_
     clear hs; rintro _ w hs
     refine WL.next ?_
     refine WC.ret ?_
     refine fin1c rfl agg27 Q0 hs Q1 Q0 ?_
     obtain ⟨Fj25, hs⟩ : ∃ F, Sat _ _ _ (ow (⟨s24⟩ : PCache) F :: _) := ⟨_, PCache.join (⟨s24⟩ : PCache) (hs.sel (D := [ow s24 F24]) Q2) ⟩
     try simp only [List.cons_append, List.nil_append] at hs
     refine RetD.mk hs Q1 ?_
     refine ⟨(⟨s24⟩ : PCache), rfl, trivial, ?_, ?_⟩
     ·
      repeat' apply And.intro
      all_goals (try dsimp only)
      all_goals first | trivial | assumption | omega | ((try simp only [List.length_append, List.length_cons, List.length_nil, lsz_app, lsz_one, lsz_cons, lsz_nil, TAddr.size, TResponse.size, TRequest.size, TPolicy.size, TEntry.size, TCache.size, strsz, TLine.size, TSent.size, TServer.size, TFile.size, List.map_append, List.map_cons, List.map_nil, PServer.lg, PPolicy.lg, PCache.lg, hl24] at *); first | omega | assumption)
     ·
      exact hs.freshD (x := (⟨s24⟩ : PCache)) (F := Fj25) Q2
    ·
     refine WI.calld (i := 6) hs (T := 205) (b := b_) (c := c) Q2 (fun _ hs => hs.only Q2) Q0 Q0 (Yc.func Q0 fn120) (c_spec_l4Any c b_ _ (hs.cur Q1) (Apart.now hb_c hs)) ?_
     clear hs; intro v w ho hR hs
     obtain ⟨x26, rfl, hokx26, hx26, hf26⟩ := hR
     clear ho hf26
     have hn26 := hx26.1; have hm26 := hx26.2
     refine WA.two (i := 1) (j := 8) Q6 ?_ ?_
     ·
      refine WI.r (i := 1) Q0 Q0 (Yl.yr (Yl.loadB sca25 Q0 hs Q1 Q0)) (by rintro _ _ ⟨rfl, rfl⟩; exact hs.only Q2) ?_
      rintro _ _ ⟨rfl, rfl⟩
      refine WA.calld (i := 8) hs (T := 205) (b := b_) (c := c) Q2 (fun _ hs => hs.only Q2) Q6 Q0 Q0 (Yc.func Q0 fn159) (c_spec_l10Any c b_ _ (hs.cur Q1) (Apart.now hb_c hs)) ?_
      clear hs; intro v w ho hR hs
      obtain ⟨x27, rfl, hokx27, hx27, hf27⟩ := hR
      clear ho hf27
      refine WA.p (i := 9) Q0 Q6 Q6 Q6 Q0 (hs.only Q2) (fun w hs => Yl.build bt173 Q0 Q4) ?_
      refine WA.r (i := 10) Q6 Q0 Q0 (Yr.buildSlice hs sll25 Q0 Q0 Q0 Q4 Q0) (by rintro _ w ⟨b28, rfl, hb, hs⟩; exact hs.only Q2) ?_
      clear hs; rintro _ w ⟨b28, rfl, hb, hs⟩; clear hb
      refine WA.r (i := 11) Q6 Q0 Q0 (Yr.append (s := x2.entries) (F := K3_0) hs elt25 Q2 Q0 Q0 rfl (xs := [(⟨x20, (⟨x26.host, x26.path⟩ : TAddr), (⟨x27.status, x27.kind, x27.body, x27.age, x27.shares, x27.policy⟩ : TResponse), 0⟩ : TEntry)]) (hs.box_cells Q1) (by intro x hx; obtain rfl := List.mem_singleton.1 hx; exact ⟨(by first | exact (Flat.any hokx20) | trivial | assumption | exact Flat.any (by assumption) | exact ⟨by omega, by omega⟩ | (show WfS _; unfold WfS; omega) | (show WfS _; unfold WfS; simp only [List.length_append, List.length_cons, List.length_nil] at *; omega) | (refine Ph.old ?_ hs; assumption)), ⟨(by first | exact (Flat.any hokx26).host | trivial | assumption | exact Flat.any (by assumption) | exact ⟨by omega, by omega⟩ | (show WfS _; unfold WfS; omega) | (show WfS _; unfold WfS; simp only [List.length_append, List.length_cons, List.length_nil] at *; omega) | (refine Ph.old ?_ hs; assumption)), (by first | exact (Flat.any hokx26).path | trivial | assumption | exact Flat.any (by assumption) | exact ⟨by omega, by omega⟩ | (show WfS _; unfold WfS; omega) | (show WfS _; unfold WfS; simp only [List.length_append, List.length_cons, List.length_nil] at *; omega) | (refine Ph.old ?_ hs; assumption))⟩, ⟨(by first | exact (Flat.any hokx27).status | trivial | assumption | exact Flat.any (by assumption) | exact ⟨by omega, by omega⟩ | (show WfS _; unfold WfS; omega) | (show WfS _; unfold WfS; simp only [List.length_append, List.length_cons, List.length_nil] at *; omega) | (refine Ph.old ?_ hs; assumption)), (by first | exact (Flat.any hokx27).kind | trivial | assumption | exact Flat.any (by assumption) | exact ⟨by omega, by omega⟩ | (show WfS _; unfold WfS; omega) | (show WfS _; unfold WfS; simp only [List.length_append, List.length_cons, List.length_nil] at *; omega) | (refine Ph.old ?_ hs; assumption)), (by first | exact (Flat.any hokx27).body | trivial | assumption | exact Flat.any (by assumption) | exact ⟨by omega, by omega⟩ | (show WfS _; unfold WfS; omega) | (show WfS _; unfold WfS; simp only [List.length_append, List.length_cons, List.length_nil] at *; omega) | (refine Ph.old ?_ hs; assumption)), (by first | exact (Flat.any hokx27).age | trivial | assumption | exact Flat.any (by assumption) | exact ⟨by omega, by omega⟩ | (show WfS _; unfold WfS; omega) | (show WfS _; unfold WfS; simp only [List.length_append, List.length_cons, List.length_nil] at *; omega) | (refine Ph.old ?_ hs; assumption)), (by first | exact (Flat.any hokx27).shares | trivial | assumption | exact Flat.any (by assumption) | exact ⟨by omega, by omega⟩ | (show WfS _; unfold WfS; omega) | (show WfS _; unfold WfS; simp only [List.length_append, List.length_cons, List.length_nil] at *; omega) | (refine Ph.old ?_ hs; assumption)), (by first | exact (Flat.any hokx27).policy | trivial | assumption | exact Flat.any (by assumption) | exact ⟨by omega, by omega⟩ | (show WfS _; unfold WfS; omega) | (show WfS _; unfold WfS; simp only [List.length_append, List.length_cons, List.length_nil] at *; omega) | (refine Ph.old ?_ hs; assumption))⟩, (by first | exact (show WfI 0 from ⟨by omega, by omega⟩) | trivial | assumption | exact Flat.any (by assumption) | exact ⟨by omega, by omega⟩ | (show WfS _; unfold WfS; omega) | (show WfS _; unfold WfS; simp only [List.length_append, List.length_cons, List.length_nil] at *; omega) | (refine Ph.old ?_ hs; assumption))⟩) (by first | (unfold maxLen; omega) | omega | ((try simp only [lsz, strsz, List.length_map, PCache.lg, TCache.size, PPolicy.lg, TPolicy.size, List.length_cons, List.length_nil] at *); first | (unfold maxLen; omega) | omega)) (by first | (unfold maxLen; omega) | omega | ((try simp only [lsz, strsz, List.length_map, PCache.lg, TCache.size, PPolicy.lg, TPolicy.size, List.length_cons, List.length_nil] at *); first | (unfold maxLen; omega) | omega))) (by rintro _ w ⟨s29, F29, rfl, hl29, hs⟩; exact hs.only Q2) ?_
      clear hs; rintro _ w ⟨s29, F29, rfl, hl29, hs⟩
      refine WA.p (i := 12) Q0 Q6 Q6 Q6 Q0 (hs.only Q2) (fun w hs => Yl.fieldAddr fa27_0 Q0) ?_
      refine WA.s (i := 13) Q6 Q0 (Yr.storeB hs Q0 Q0 Q0 Q5 Q3 Q0 (by exact szf25)) (by rintro _ w hs; exact hs.only Q2) ?_
      clear hs; rintro _ w hs
      refine WA.done Q6 ?_
      refine At.blocknormal ?_
      refine At.then_ ?_
      refine WC.seq ?_
      refine WL.p Q0 (Yl.loadAB agg27 Q0 hs Q1 Q0 Q0) ?_
      refine WL.s (Yr.storeB hs Q0 Q0 Q0 Q5 Q3 Q0 (by exact szf27)) ?_
      clear hs; rintro _ w hs
      refine WL.next ?_
      refine WC.ret ?_
      refine fin1c rfl agg27 Q0 hs Q1 Q0 ?_
      obtain ⟨Fj30, hs⟩ : ∃ F, Sat _ _ _ (ow (⟨s29⟩ : PCache) F :: _) := ⟨_, PCache.join (⟨s29⟩ : PCache) (hs.sel (D := [ow s29 F29]) Q2) ⟩
      try simp only [List.cons_append, List.nil_append] at hs
      refine RetD.mk hs Q1 ?_
      refine ⟨(⟨s29⟩ : PCache), rfl, trivial, ?_, ?_⟩
      ·
       repeat' apply And.intro
       all_goals (try dsimp only)
       all_goals first | trivial | assumption | omega | ((try simp only [List.length_append, List.length_cons, List.length_nil, lsz_app, lsz_one, lsz_cons, lsz_nil, TAddr.size, TResponse.size, TRequest.size, TPolicy.size, TEntry.size, TCache.size, strsz, TLine.size, TSent.size, TServer.size, TFile.size, List.map_append, List.map_cons, List.map_nil, PServer.lg, PPolicy.lg, PCache.lg, hl29] at *); first | omega | assumption)
      ·
       exact hs.freshD (x := (⟨s29⟩ : PCache)) (F := Fj30) Q2
     ·
      refine WI.calld (i := 8) hs (T := 205) (b := b_) (c := c) Q2 (fun _ hs => hs.only Q2) Q0 Q0 (Yc.func Q0 fn159) (c_spec_l10Any c b_ _ (hs.cur Q1) (Apart.now hb_c hs)) ?_
      clear hs; intro v w ho hR hs
      obtain ⟨x31, rfl, hokx31, hx31, hf31⟩ := hR
      clear ho hf31
      refine WA.p (i := 9) Q0 Q6 Q6 Q6 Q0 (hs.only Q2) (fun w hs => Yl.build bt173 Q0 Q4) ?_
      refine WA.dag' [(⟨1, 12, [], (fun _ v cs => v = Sl.v x2.entries ∧ cs = [])⟩, []), (⟨10, 21, [], (fun _ v cs => ∃ b, v = .slice (some ⟨b, 0, none⟩) 1 1 ∧ cs = [box b 173 ((Ph.enc ((⟨x20, (⟨x26.host, x26.path⟩ : TAddr), (⟨x31.status, x31.kind, x31.body, x31.age, x31.shares, x31.policy⟩ : TResponse), 0⟩ : TEntry))))])⟩, [])] [false, false] [(0, _), (2, _), (3, _), (5, _), (6, _), (7, _), (8, _), (9, _), (10, _), (11, _), (13, _), (14, _), (15, _), (16, _), (17, _), (18, _), (19, _), (20, _)] ⟨by rfl, by rfl, by rfl, by rfl, by rfl, by rfl, by rfl, by rfl, by rfl, by rfl, by rfl, by rfl, by rfl, by rfl, by rfl, by rfl, by rfl, by rfl, trivial⟩ Q0 Q6 Q6 Q6 Q6 Q6 Q6 Q6 Q6 (fun _ hs => hs.only Q2) hs (fuel := 3) ⟨⟨local_const, ?_⟩, ⟨local_const, ?_⟩, trivial⟩ ?_
      ·
       clear hs
       intro w R hs
       simp only [List.cons_append, List.nil_append] at hs
       exact Gives.p' Q0 (Yl.loadB sca25 Q0 hs Q1 Q0) ⟨[], ⟨rfl, rfl⟩, hs⟩
      ·
       clear hs
       intro w R hs
       simp only [List.cons_append, List.nil_append] at hs
       exact Gives.rr' Q0 (Yr.buildSlice hs sll25 Q0 Q0 Q0 Q4 Q0) (fun _ _ ⟨b, hv, _, hs1⟩ => ⟨[box b 173 ((Ph.enc ((⟨x20, (⟨x26.host, x26.path⟩ : TAddr), (⟨x31.status, x31.kind, x31.body, x31.age, x31.shares, x31.policy⟩ : TResponse), 0⟩ : TEntry))))], ⟨b, hv, rfl⟩, hs1⟩)
      clear hs
      rintro _ _ ⟨rfl, rfl⟩
      rintro _ _ ⟨b33, rfl, rfl⟩
      intro w hs
      simp only [List.cons_append, List.nil_append, cond_true, cond_false] at hs
      refine WA.r (i := 11) Q6 Q0 Q0 (Yr.append (s := x2.entries) (F := K3_0) hs elt25 Q2 Q0 Q0 rfl (xs := [(⟨x20, (⟨x26.host, x26.path⟩ : TAddr), (⟨x31.status, x31.kind, x31.body, x31.age, x31.shares, x31.policy⟩ : TResponse), 0⟩ : TEntry)]) (hs.box_cells Q1) (by intro x hx; obtain rfl := List.mem_singleton.1 hx; exact ⟨(by first | exact (Flat.any hokx20) | trivial | assumption | exact Flat.any (by assumption) | exact ⟨by omega, by omega⟩ | (show WfS _; unfold WfS; omega) | (show WfS _; unfold WfS; simp only [List.length_append, List.length_cons, List.length_nil] at *; omega) | (refine Ph.old ?_ hs; assumption)), ⟨(by first | exact (Flat.any hokx26).host | trivial | assumption | exact Flat.any (by assumption) | exact ⟨by omega, by omega⟩ | (show WfS _; unfold WfS; omega) | (show WfS _; unfold WfS; simp only [List.length_append, List.length_cons, List.length_nil] at *; omega) | (refine Ph.old ?_ hs; assumption)), (by first | exact (Flat.any hokx26).path | trivial | assumption | exact Flat.any (by assumption) | exact ⟨by omega, by omega⟩ | (show WfS _; unfold WfS; omega) | (show WfS _; unfold WfS; simp only [List.length_append, List.length_cons, List.length_nil] at *; omega) | (refine Ph.old ?_ hs; assumption))⟩, ⟨(by first | exact (Flat.any hokx31).status | trivial | assumption | exact Flat.any (by assumption) | exact ⟨by omega, by omega⟩ | (show WfS _; unfold WfS; omega) | (show WfS _; unfold WfS; simp only [List.length_append, List.length_cons, List.length_nil] at *; omega) | (refine Ph.old ?_ hs; assumption)), (by first | exact (Flat.any hokx31).kind | trivial | assumption | exact Flat.any (by assumption) | exact ⟨by omega, by omega⟩ | (show WfS _; unfold WfS; omega) | (show WfS _; unfold WfS; simp only [List.length_append, List.length_cons, List.length_nil] at *; omega) | (refine Ph.old ?_ hs; assumption)), (by first | exact (Flat.any hokx31).body | trivial | assumption | exact Flat.any (by assumption) | exact ⟨by omega, by omega⟩ | (show WfS _; unfold WfS; omega) | (show WfS _; unfold WfS; simp only [List.length_append, List.length_cons, List.length_nil] at *; omega) | (refine Ph.old ?_ hs; assumption)), (by first | exact (Flat.any hokx31).age | trivial | assumption | exact Flat.any (by assumption) | exact ⟨by omega, by omega⟩ | (show WfS _; unfold WfS; omega) | (show WfS _; unfold WfS; simp only [List.length_append, List.length_cons, List.length_nil] at *; omega) | (refine Ph.old ?_ hs; assumption)), (by first | exact (Flat.any hokx31).shares | trivial | assumption | exact Flat.any (by assumption) | exact ⟨by omega, by omega⟩ | (show WfS _; unfold WfS; omega) | (show WfS _; unfold WfS; simp only [List.length_append, List.length_cons, List.length_nil] at *; omega) | (refine Ph.old ?_ hs; assumption)), (by first | exact (Flat.any hokx31).policy | trivial | assumption | exact Flat.any (by assumption) | exact ⟨by omega, by omega⟩ | (show WfS _; unfold WfS; omega) | (show WfS _; unfold WfS; simp only [List.length_append, List.length_cons, List.length_nil] at *; omega) | (refine Ph.old ?_ hs; assumption))⟩, (by first | exact (show WfI 0 from ⟨by omega, by omega⟩) | trivial | assumption | exact Flat.any (by assumption) | exact ⟨by omega, by omega⟩ | (show WfS _; unfold WfS; omega) | (show WfS _; unfold WfS; simp only [List.length_append, List.length_cons, List.length_nil] at *; omega) | (refine Ph.old ?_ hs; assumption))⟩) (by first | (unfold maxLen; omega) | omega | ((try simp only [lsz, strsz, List.length_map, PCache.lg, TCache.size, PPolicy.lg, TPolicy.size, List.length_cons, List.length_nil] at *); first | (unfold maxLen; omega) | omega)) (by first | (unfold maxLen; omega) | omega | ((try simp only [lsz, strsz, List.length_map, PCache.lg, TCache.size, PPolicy.lg, TPolicy.size, List.length_cons, List.length_nil] at *); first | (unfold maxLen; omega) | omega))) (by rintro _ w ⟨s34, F34, rfl, hl34, hs⟩; exact hs.only Q2) ?_
      clear hs; rintro _ w ⟨s34, F34, rfl, hl34, hs⟩
      refine WA.p (i := 12) Q0 Q6 Q6 Q6 Q0 (hs.only Q2) (fun w hs => Yl.fieldAddr fa27_0 Q0) ?_
      refine WA.s (i := 13) Q6 Q0 (Yr.storeB hs Q0 Q0 Q0 Q5 Q3 Q0 (by exact szf25)) (by rintro _ w hs; exact hs.only Q2) ?_
      clear hs; rintro _ w hs
      refine WA.done Q6 ?_
      refine At.blocknormal ?_
      refine At.then_ ?_
      refine WC.seq ?_
      refine WL.p Q0 (Yl.loadAB agg27 Q0 hs Q1 Q0 Q0) ?_
      refine WL.s (Yr.storeB hs Q0 Q0 Q0 Q5 Q3 Q0 (by exact szf27)) ?_
      clear hs; rintro _ w hs
      refine WL.next ?_
      refine WC.ret ?_
      refine fin1c rfl agg27 Q0 hs Q1 Q0 ?_
      obtain ⟨Fj35, hs⟩ : ∃ F, Sat _ _ _ (ow (⟨s34⟩ : PCache) F :: _) := ⟨_, PCache.join (⟨s34⟩ : PCache) (hs.sel (D := [ow s34 F34]) Q2) ⟩
      try simp only [List.cons_append, List.nil_append] at hs
      refine RetD.mk hs Q1 ?_
      refine ⟨(⟨s34⟩ : PCache), rfl, trivial, ?_, ?_⟩
      ·
       repeat' apply And.intro
       all_goals (try dsimp only)
       all_goals first | trivial | assumption | omega | ((try simp only [List.length_append, List.length_cons, List.length_nil, lsz_app, lsz_one, lsz_cons, lsz_nil, TAddr.size, TResponse.size, TRequest.size, TPolicy.size, TEntry.size, TCache.size, strsz, TLine.size, TSent.size, TServer.size, TFile.size, List.map_append, List.map_cons, List.map_nil, PServer.lg, PPolicy.lg, PCache.lg, hl34] at *); first | omega | assumption)
      ·
       exact hs.freshD (x := (⟨s34⟩ : PCache)) (F := Fj35) Q2
 ·
  replace h1 := of_decide_eq_false h1
  refine WC.seq ?_
  refine WL.p Q0 (Yl.eqi Q0 Q0) ?_
  refine Qa ?_
  refine WL.next ?_
  refine WC.condS Q0 (fun h2 => ?_) (fun h2 => ?_)
  ·
   replace h2 := of_decide_eq_true h2
   refine WC.seq ?_
   refine Qa ?_
   refine WL.next ?_
   refine WC.block ?_
   refine WC.loopC (ι := Nat × Sl TEntry × List Nat) (fun ⟨k, s, F⟩ => 101 - k) (fun ⟨k, s, F⟩ => [(4, I (k : Int))]) (fun ⟨k, s, F⟩ => [box b4 27 [Sl.v s], ow s F]) (fun ⟨k, s, F⟩ => k ≤ 101 ∧ lsz TEntry.size s.l ≤ 10000 + k * 20) [(0, _), (2, _), (3, _), (8, _), (9, _), (24, _)] (0, x2.entries, K3_0) (hs.sel (D := [box b4 27 _, ow x2.entries K3_0]) Q2) ⟨by rfl, by rfl, by rfl, by rfl, by rfl, by rfl, trivial⟩ ⟨by rfl, trivial⟩ ?_ ?_
   ·
    exact ⟨by omega, by simp only [PCache.lg, TCache.size] at hx2; omega⟩
   clear hs; rintro ⟨k, s, F⟩ w ⟨hJ1, hJ2⟩ hs
   simp only [List.cons_append, List.nil_append] at hs
   refine WC.seq' ?_
   refine WC.seq ?_
   refine Qm ?_
   refine WL.p Q0 (Yl.lss Q0 Q0) ?_
   refine WL.next ?_
   refine WC.condS Q0 (fun h3 => ?_) (fun h3 => ?_)
   ·
    replace h3 := of_decide_eq_true h3
    skip
    refine WC.skipn ?_
    refine WC.seq' ?_
    refine WC.block ?_
    refine WC.region ?_
    refine WL.p Q0 (Yl.fieldAddr fa27_0 Q0) ?_
    refine WL.p Q0 (Yl.loadB sca25 Q0 hs Q1 Q0) ?_
    refine Qm ?_
    refine WL.p Q0 (Yl.remw Q0 Q0 (by decide)) ?_
    refine WL.p Q0 (Yl.add Q0 Q0 (by have := tmod_bd (a := (k : Int)) (n := 20) Q7 Q7; omega)) ?_
    refine WL.p Q0 (Yl.intByte (c := UInt8.ofNat (97 + k % 20)) Q6 u8t5 Q0 (by exact ch_mod Q7)) ?_
    refine Qm ?_
    refine WL.p Q0 (Yl.quow Q0 Q0 (by decide)) ?_
    refine WL.p Q0 (Yl.add Q0 Q0 (by have := quo_bd (k := k) Q7; omega)) ?_
    refine WL.p Q0 (Yl.intByte (c := UInt8.ofNat (97 + k / 20)) Q6 u8t5 Q0 (by exact ch_quo Q7)) ?_
    refine WL.r Q0 (Yr.buildSlice hs sll22 Q0 Q0 Q0 Q4 Q0) ?_
    clear hs; rintro _ w ⟨b36, rfl, hb, hs⟩; clear hb
    refine WL.p Q0 (Yl.bytesStr (l := [UInt8.ofNat (97 + k % 20), UInt8.ofNat (97 + k / 20)]) slu22 u8t5 str9 Q0 (hs.box_cells Q1) Q0 Q0) ?_
    refine WL.p Q0 (Yl.build bt39 Q0 Q4) ?_
    refine WL.p Q0 (Yl.build bt72 Q0 Q4) ?_
    refine WL.p Q0 (Yl.build bt173 Q0 Q4) ?_
    refine WL.r Q0 (Yr.buildSlice hs sll25 Q0 Q0 Q0 Q4 Q0) ?_
    clear hs; rintro _ w ⟨b37, rfl, hb, hs⟩; clear hb
    refine WL.r Q0 (Yr.append (s := s) (F := F) hs elt25 Q2 Q0 Q0 rfl (xs := [(⟨([104, 111, 109, 101] : Str), (⟨([99, 100, 110] : Str), ([UInt8.ofNat (97 + k % 20), UInt8.ofNat (97 + k / 20)] : Str)⟩ : TAddr), (⟨200, 2, ([] : Str), 0, false, ([] : Str)⟩ : TResponse), 0⟩ : TEntry)]) (hs.box_cells Q1) (by intro x hx; obtain rfl := List.mem_singleton.1 hx; exact ⟨(by first | exact (show WfS [104, 111, 109, 101] from (by unfold WfS; simp)) | trivial | assumption | exact Flat.any (by assumption) | exact ⟨by omega, by omega⟩ | (show WfS _; unfold WfS; omega) | (show WfS _; unfold WfS; simp only [List.length_append, List.length_cons, List.length_nil] at *; omega) | (refine Ph.old ?_ hs; assumption)), ⟨(by first | exact (show WfS [99, 100, 110] from (by unfold WfS; simp)) | trivial | assumption | exact Flat.any (by assumption) | exact ⟨by omega, by omega⟩ | (show WfS _; unfold WfS; omega) | (show WfS _; unfold WfS; simp only [List.length_append, List.length_cons, List.length_nil] at *; omega) | (refine Ph.old ?_ hs; assumption)), (by first | exact (show WfS _ from by unfold WfS; simp) | trivial | assumption | exact Flat.any (by assumption) | exact ⟨by omega, by omega⟩ | (show WfS _; unfold WfS; omega) | (show WfS _; unfold WfS; simp only [List.length_append, List.length_cons, List.length_nil] at *; omega) | (refine Ph.old ?_ hs; assumption))⟩, ⟨(by first | exact (show WfI 200 from ⟨by omega, by omega⟩) | trivial | assumption | exact Flat.any (by assumption) | exact ⟨by omega, by omega⟩ | (show WfS _; unfold WfS; omega) | (show WfS _; unfold WfS; simp only [List.length_append, List.length_cons, List.length_nil] at *; omega) | (refine Ph.old ?_ hs; assumption)), (by first | exact (show WfI 2 from ⟨by omega, by omega⟩) | trivial | assumption | exact Flat.any (by assumption) | exact ⟨by omega, by omega⟩ | (show WfS _; unfold WfS; omega) | (show WfS _; unfold WfS; simp only [List.length_append, List.length_cons, List.length_nil] at *; omega) | (refine Ph.old ?_ hs; assumption)), (by first | exact (show WfS [] from Nat.zero_le _) | trivial | assumption | exact Flat.any (by assumption) | exact ⟨by omega, by omega⟩ | (show WfS _; unfold WfS; omega) | (show WfS _; unfold WfS; simp only [List.length_append, List.length_cons, List.length_nil] at *; omega) | (refine Ph.old ?_ hs; assumption)), (by first | exact (show WfI 0 from ⟨by omega, by omega⟩) | trivial | assumption | exact Flat.any (by assumption) | exact ⟨by omega, by omega⟩ | (show WfS _; unfold WfS; omega) | (show WfS _; unfold WfS; simp only [List.length_append, List.length_cons, List.length_nil] at *; omega) | (refine Ph.old ?_ hs; assumption)), (by first | exact trivial | trivial | assumption | exact Flat.any (by assumption) | exact ⟨by omega, by omega⟩ | (show WfS _; unfold WfS; omega) | (show WfS _; unfold WfS; simp only [List.length_append, List.length_cons, List.length_nil] at *; omega) | (refine Ph.old ?_ hs; assumption)), (by first | exact (show WfS [] from Nat.zero_le _) | trivial | assumption | exact Flat.any (by assumption) | exact ⟨by omega, by omega⟩ | (show WfS _; unfold WfS; omega) | (show WfS _; unfold WfS; simp only [List.length_append, List.length_cons, List.length_nil] at *; omega) | (refine Ph.old ?_ hs; assumption))⟩, (by first | exact (show WfI 0 from ⟨by omega, by omega⟩) | trivial | assumption | exact Flat.any (by assumption) | exact ⟨by omega, by omega⟩ | (show WfS _; unfold WfS; omega) | (show WfS _; unfold WfS; simp only [List.length_append, List.length_cons, List.length_nil] at *; omega) | (refine Ph.old ?_ hs; assumption))⟩) (by first | (unfold maxLen; omega) | omega | ((try simp only [lsz, strsz, List.length_map, PCache.lg, TCache.size, PPolicy.lg, TPolicy.size, List.length_cons, List.length_nil] at *); first | (unfold maxLen; omega) | omega)) (by first | (unfold maxLen; omega) | omega | ((try simp only [lsz, strsz, List.length_map, PCache.lg, TCache.size, PPolicy.lg, TPolicy.size, List.length_cons, List.length_nil] at *); first | (unfold maxLen; omega) | omega))) ?_
    clear hs; rintro _ w ⟨s38, F38, rfl, hl38, hs⟩
    refine WL.p Q0 (Yl.fieldAddr fa27_0 Q0) ?_
    refine WL.s (Yr.storeB hs Q0 Q0 Q0 Q5 Q3 Q0 (by exact szf25)) ?_
    clear hs; rintro _ w hs
    refine WL.nil ?_
    refine At.blocknormal ?_
    refine At.then_ ?_
    refine WC.region ?_
    refine Qm ?_
    refine WL.p Q0 (Yl.add Q0 Q0 Q7) ?_
    refine Qa ?_
    refine WL.nil ?_
    refine At.roundC (k + 1, s38, F38) (hs.only Q2) ⟨by rfl, by rfl, by rfl, by rfl, by rfl, by rfl, trivial⟩ ⟨by rfl, trivial⟩ ?_ ?_
    ·
     show 101 - (k + 1) < 101 - k
     omega
    ·
     refine ⟨by omega, ?_⟩
     rw [hl38, lsz_app, lsz_one]; simp only [TEntry.size, TAddr.size, TResponse.size, List.length_cons, List.length_nil]; omega
   ·
    replace h3 := of_decide_eq_false h3
    refine WC.exit ?_
    refine At.thenexit ?_
    refine At.thenexit ?_
    refine At.blockexit ?_
    refine At.blocknormal ?_
    refine At.then_ ?_
    refine WC.seq ?_
    refine WL.p Q0 (Yl.loadAB agg27 Q0 hs Q1 Q0 Q0) ?_
    refine WL.s (Yr.storeB hs Q0 Q0 Q0 Q5 Q3 Q0 (by exact szf27)) ?_
    clear hs; rintro _ w hs
    refine WL.next ?_
    refine WC.ret ?_
    refine fin1c rfl agg27 Q0 hs Q1 Q0 ?_
    obtain ⟨Fj39, hs⟩ : ∃ F, Sat _ _ _ (ow (⟨s⟩ : PCache) F :: _) := ⟨_, PCache.join (⟨s⟩ : PCache) (hs.sel (D := [ow s F]) Q2) ⟩
    try simp only [List.cons_append, List.nil_append] at hs
    refine RetD.mk hs Q1 ?_
    refine ⟨(⟨s⟩ : PCache), rfl, trivial, ?_, ?_⟩
    ·
     repeat' apply And.intro
     all_goals (try dsimp only)
     all_goals first | trivial | assumption | omega | ((try simp only [List.length_append, List.length_cons, List.length_nil, lsz_app, lsz_one, lsz_cons, lsz_nil, TAddr.size, TResponse.size, TRequest.size, TPolicy.size, TEntry.size, TCache.size, strsz, TLine.size, TSent.size, TServer.size, TFile.size, List.map_append, List.map_cons, List.map_nil, PServer.lg, PPolicy.lg, PCache.lg] at *); first | omega | assumption)
    ·
     exact hs.freshD (x := (⟨s⟩ : PCache)) (F := Fj39) Q2
  ·
   replace h2 := of_decide_eq_false h2
   refine WC.skip ?_
   refine At.blocknormal ?_
   refine At.then_ ?_
   refine WC.seq ?_
   refine WL.p Q0 (Yl.loadAB agg27 Q0 hs Q1 Q0 Q0) ?_
   refine WL.s (Yr.storeB hs Q0 Q0 Q0 Q5 Q3 Q0 (by exact szf27)) ?_
   clear hs; rintro _ w hs
   refine WL.next ?_
   refine WC.ret ?_
   refine fin1c rfl agg27 Q0 hs Q1 Q0 ?_
   obtain ⟨Fj40, hs⟩ : ∃ F, Sat _ _ _ (ow (⟨x2.entries⟩ : PCache) F :: _) := ⟨_, PCache.join (⟨x2.entries⟩ : PCache) (hs.sel (D := [ow x2.entries K3_0]) Q2) ⟩
   try simp only [List.cons_append, List.nil_append] at hs
   refine RetD.mk hs Q1 ?_
   refine ⟨(⟨x2.entries⟩ : PCache), rfl, trivial, ?_, ?_⟩
   ·
    repeat' apply And.intro
    all_goals (try dsimp only)
    all_goals first | trivial | assumption | omega | ((try simp only [List.length_append, List.length_cons, List.length_nil, lsz_app, lsz_one, lsz_cons, lsz_nil, TAddr.size, TResponse.size, TRequest.size, TPolicy.size, TEntry.size, TCache.size, strsz, TLine.size, TSent.size, TServer.size, TFile.size, List.map_append, List.map_cons, List.map_nil, PServer.lg, PPolicy.lg, PCache.lg] at *); first | omega | assumption)
   ·
    exact hs.freshD (x := (⟨x2.entries⟩ : PCache)) (F := Fj40) Q2

set_option maxRecDepth 20000 in
theorem c_spec_l14Any (c : Nat) (b_ : Sl UInt8) (w : World)   (h_c : CurAt 205 b_ c w) (hb_c : CurB w b_ c) : Calls Tryz.prog 84 [bp c 0].toArray w (RetD 205 b_ c w (fun v w' => ∃ (n : PNet), v = .agg (Ph.enc n).toArray ∧ (True) ∧ (NetAt n.lg 90000 240300 9000) ∧ Fresh w n w')) := by
 refine enterN 39 Tryz.func84 rfl rfl rfl ?_
 have hs := Sat.startC h_c
 refine WC.seq ?_
 refine WL.r Q0 (Yr.alloc hs zt30) ?_
 clear hs; rintro _ w ⟨b1, rfl, hb, hs⟩; clear hb
 refine WL.next ?_
 refine WC.seq ?_
 refine Qm ?_
 refine WL.calld hs (T := 205) (b := b_) (c := c) Q2 Q0 (Yc.func Q0 fn173) (c_spec_l14Net c b_ _ (hs.cur Q1) (Apart.now hb_c hs)) ?_
 clear hs; intro v w ho hR hs
 obtain ⟨x2, rfl, _, hx2, hf2⟩ := hR
 obtain ⟨F2, hs⟩ := hs.addF ho hf2
 clear ho hf2
 obtain ⟨K3_0, K3_1, K3_2, hfl3, hs⟩ := PNet.split (hs.sel (D := [ow x2 F2]) Q2)
 try simp only [List.cons_append, List.nil_append] at hs
 refine WL.r Q0 (Yr.alloc hs zt30) ?_
 clear hs; rintro _ w ⟨b4, rfl, hb, hs⟩; clear hb
 refine WL.s (Yr.storeB hs Q0 Q0 Q0 Q5 Q3 Q0 (by exact szf30)) ?_
 clear hs; rintro _ w hs
 refine WL.next ?_
 refine WC.seq' ?_
 refine WC.seq ?_
 refine Qm ?_
 refine WL.calld hs (T := 205) (b := b_) (c := c) Q2 Q0 (Yc.func Q0 fn118) (c_spec_l1Below c b_ _ _ (hs.cur Q1) (Apart.now hb_c hs)) ?_
 clear hs; intro v w ho hR hs
 obtain ⟨x5, rfl, hokx5, hx5, hf5⟩ := hR
 clear ho hf5
 replace hx5 : 0 ≤ x5 ∧ x5 < 14 := ⟨hx5.1, hx5.2.2 (by decide)⟩
 refine WL.next ?_
 refine WC.block ?_
 refine WC.seq ?_
 refine WL.p Q0 (Yl.eqi Q0 Q0) ?_
 refine Qa ?_
 refine WL.next ?_
 refine WC.condS Q0 (fun h1 => ?_) (fun h1 => ?_)
 ·
  replace h1 := of_decide_eq_true h1
  refine WC.region ?_
  refine Qm ?_
  refine WL.calld hs (T := 205) (b := b_) (c := c) Q2 Q0 (Yc.func Q0 fn174) (c_spec_l12Any c b_ _ (hs.cur Q1) (Apart.now hb_c hs)) ?_
  clear hs; intro v w ho hR hs
  obtain ⟨x6, rfl, _, hx6, hf6⟩ := hR
  obtain ⟨F6, hs⟩ := hs.addF ho hf6
  clear ho hf6
  refine WL.p Q0 (Yl.fieldAddr fa30_0 Q0) ?_
  refine WL.s (Yr.storeB hs Q0 Q0 Q0 Q5 Q3 Q0 (by exact szf24)) ?_
  clear hs; rintro _ w hs
  refine WL.nil ?_
  refine At.blocknormal ?_
  refine At.then_ ?_
  refine WC.seq ?_
  refine WL.p Q0 (Yl.loadAB agg30 Q0 hs Q1 Q0 Q0) ?_
  refine WL.s (Yr.storeB hs Q0 Q0 Q0 Q5 Q3 Q0 (by exact szf30)) ?_
  clear hs; rintro _ w hs
  refine WL.next ?_
  refine WC.ret ?_
  refine fin1c rfl agg30 Q0 hs Q1 Q0 ?_
  obtain ⟨Fj7, hs⟩ : ∃ F, Sat _ _ _ (ow (⟨x6, x2.cache, x2.log, x2.now⟩ : PNet) F :: _) := ⟨_, PNet.join (⟨x6, x2.cache, x2.log, x2.now⟩ : PNet) (hs.sel (D := [ow x6 F6, ow x2.cache K3_1, ow x2.log K3_2]) Q2) (by first | exact (Flat.any hfl3.1) | trivial | assumption | exact Flat.any (by assumption) | exact ⟨by omega, by omega⟩ | (show WfS _; unfold WfS; omega) | (show WfS _; unfold WfS; simp only [List.length_append, List.length_cons, List.length_nil] at *; omega) | (refine Ph.old ?_ hs; assumption))⟩
  try simp only [List.cons_append, List.nil_append] at hs
  refine RetD.mk hs Q1 ?_
  refine ⟨(⟨x6, x2.cache, x2.log, x2.now⟩ : PNet), rfl, trivial, ?_, ?_⟩
  ·
   exact ⟨(hx6), (hx2.cch), (Nat.le_trans hx2.log Q7), (hx2.hst), (hx2.now)⟩
  ·
   exact hs.freshD (x := (⟨x6, x2.cache, x2.log, x2.now⟩ : PNet)) (F := Fj7) Q2
 ·
  replace h1 := of_decide_eq_false h1
  refine WC.seq ?_
  refine WL.p Q0 (Yl.eqi Q0 Q0) ?_
  refine Qa ?_
  refine WL.next ?_
  refine WC.condS Q0 (fun h2 => ?_) (fun h2 => ?_)
  ·
   replace h2 := of_decide_eq_true h2
   refine WC.region ?_
   refine Qm ?_
   refine WL.calld hs (T := 205) (b := b_) (c := c) Q2 Q0 (Yc.func Q0 fn175) (c_spec_l13Any c b_ _ (hs.cur Q1) (Apart.now hb_c hs)) ?_
   clear hs; intro v w ho hR hs
   obtain ⟨x8, rfl, _, hx8, hf8⟩ := hR
   obtain ⟨F8, hs⟩ := hs.addF ho hf8
   clear ho hf8
   refine WL.p Q0 (Yl.fieldAddr fa30_1 Q0) ?_
   refine WL.s (Yr.storeB hs Q0 Q0 Q0 Q5 Q3 Q0 (by exact szf27)) ?_
   clear hs; rintro _ w hs
   refine WL.nil ?_
   refine At.blocknormal ?_
   refine At.then_ ?_
   refine WC.seq ?_
   refine WL.p Q0 (Yl.loadAB agg30 Q0 hs Q1 Q0 Q0) ?_
   refine WL.s (Yr.storeB hs Q0 Q0 Q0 Q5 Q3 Q0 (by exact szf30)) ?_
   clear hs; rintro _ w hs
   refine WL.next ?_
   refine WC.ret ?_
   refine fin1c rfl agg30 Q0 hs Q1 Q0 ?_
   obtain ⟨Fj9, hs⟩ : ∃ F, Sat _ _ _ (ow (⟨x2.servers, x8, x2.log, x2.now⟩ : PNet) F :: _) := ⟨_, PNet.join (⟨x2.servers, x8, x2.log, x2.now⟩ : PNet) (hs.sel (D := [ow x2.servers K3_0, ow x8 F8, ow x2.log K3_2]) Q2) (by first | exact (Flat.any hfl3.1) | trivial | assumption | exact Flat.any (by assumption) | exact ⟨by omega, by omega⟩ | (show WfS _; unfold WfS; omega) | (show WfS _; unfold WfS; simp only [List.length_append, List.length_cons, List.length_nil] at *; omega) | (refine Ph.old ?_ hs; assumption))⟩
   try simp only [List.cons_append, List.nil_append] at hs
   refine RetD.mk hs Q1 ?_
   refine ⟨(⟨x2.servers, x8, x2.log, x2.now⟩ : PNet), rfl, trivial, ?_, ?_⟩
   ·
    exact ⟨(Nat.le_trans hx2.srv Q7), (Nat.le_trans hx8 Q7), (Nat.le_trans hx2.log Q7), (hx2.hst), (hx2.now)⟩
   ·
    exact hs.freshD (x := (⟨x2.servers, x8, x2.log, x2.now⟩ : PNet)) (F := Fj9) Q2
  ·
   replace h2 := of_decide_eq_false h2
   refine WC.seq ?_
   refine WL.p Q0 (Yl.eqi Q0 Q0) ?_
   refine Qa ?_
   refine WL.next ?_
   refine WC.condS Q0 (fun h3 => ?_) (fun h3 => ?_)
   ·
    replace h3 := of_decide_eq_true h3
    refine WC.region ?_
    refine Qm ?_
    refine WL.r Q0 (Yr.buildSlice hs sll62 Q0 Q0 Q0 Q4 Q0) ?_
    clear hs; rintro _ w ⟨b10, rfl, hb, hs⟩; clear hb
    replace hs := Sat.boxow (l := ([(-1), 999999998000, 999999998001] : List Int)) (hs.sel (D := [box b10 _ _]) Q2) rfl rfl (by decide) (ownL_mk_flat (lit_int Q0))
    try simp only [List.cons_append, List.nil_append] at hs
    refine WL.calld hs (T := 205) (b := b_) (c := c) Q2 Q0 (Yc.func Q0 fn88) (c_spec_l1Int c b_ (⟨[(-1), 999999998000, 999999998001], some ⟨b10, 0, none⟩, 3⟩ : Sl Int) _ (Apart.own (s := (⟨[(-1), 999999998000, 999999998001], some ⟨b10, 0, none⟩, 3⟩ : Sl Int)) (F := [b10]) hs Q2) (by exact Nat.succ_pos _) (hs.cur Q1) (Apart.now hb_c hs)) ?_
    clear hs; intro v w ho hR hs
    obtain ⟨x11, rfl, hokx11, hx11, hf11⟩ := hR
    clear ho hf11
    replace hx11 : x11 ∈ ([(-1), 999999998000, 999999998001] : List Int) := hx11
    have hn11 := mem_int (-1) (999999998001) hx11 Q0
    refine WL.p Q0 (Yl.fieldAddr fa30_3 Q0) ?_
    refine WL.s (Yr.storeB hs Q0 Q0 Q0 Q5 Q3 Q0 (by exact szf3)) ?_
    clear hs; rintro _ w hs
    refine WL.nil ?_
    refine At.blocknormal ?_
    refine At.then_ ?_
    refine WC.seq ?_
    refine WL.p Q0 (Yl.loadAB agg30 Q0 hs Q1 Q0 Q0) ?_
    refine WL.s (Yr.storeB hs Q0 Q0 Q0 Q5 Q3 Q0 (by exact szf30)) ?_
    clear hs; rintro _ w hs
    refine WL.next ?_
    refine WC.ret ?_
    refine fin1c rfl agg30 Q0 hs Q1 Q0 ?_
    obtain ⟨Fj12, hs⟩ : ∃ F, Sat _ _ _ (ow (⟨x2.servers, x2.cache, x2.log, x11⟩ : PNet) F :: _) := ⟨_, PNet.join (⟨x2.servers, x2.cache, x2.log, x11⟩ : PNet) (hs.sel (D := [ow x2.servers K3_0, ow x2.cache K3_1, ow x2.log K3_2]) Q2) (by first | exact (Flat.any hokx11) | trivial | assumption | exact Flat.any (by assumption) | exact ⟨by omega, by omega⟩ | (show WfS _; unfold WfS; omega) | (show WfS _; unfold WfS; simp only [List.length_append, List.length_cons, List.length_nil] at *; omega) | (refine Ph.old ?_ hs; assumption))⟩
    try simp only [List.cons_append, List.nil_append] at hs
    refine RetD.mk hs Q1 ?_
    refine ⟨(⟨x2.servers, x2.cache, x2.log, x11⟩ : PNet), rfl, trivial, ?_, ?_⟩
    ·
     exact ⟨(Nat.le_trans hx2.srv Q7), (hx2.cch), (Nat.le_trans hx2.log Q7), (hx2.hst), (by show -1 ≤ x11 ∧ x11 ≤ 999999998001; omega)⟩
    ·
     exact hs.freshD (x := (⟨x2.servers, x2.cache, x2.log, x11⟩ : PNet)) (F := Fj12) Q2
   ·
    replace h3 := of_decide_eq_false h3
    refine WC.seq ?_
    refine WL.p Q0 (Yl.eqi Q0 Q0) ?_
    refine Qa ?_
    refine WL.next ?_
    refine WC.condS Q0 (fun h4 => ?_) (fun h4 => ?_)
    ·
     replace h4 := of_decide_eq_true h4
     refine WC.block ?_
     refine WC.loopC (ι := Sl TSent × List Nat) (fun ⟨s, F⟩ => 400 - s.l.length) (fun ⟨s, F⟩ => []) (fun ⟨s, F⟩ => [box b4 30 [Sl.v x2.servers, Sl.v x2.cache.entries, Sl.v s, I x2.now], ow s F]) (fun ⟨s, F⟩ => s.l.length ≤ 400 ∧ lsz TSent.size s.l ≤ 60 + s.l.length * 20 ∧ ∀ x ∈ s.l, x.to.host ∈ hosts3) [(0, _), (2, _), (3, _), (7, _), (8, _), (13, _), (18, _), (24, _)] (x2.log, K3_2) (hs.sel (D := [box b4 30 _, ow x2.log K3_2]) Q2) ⟨by rfl, by rfl, by rfl, by rfl, by rfl, by rfl, by rfl, by rfl, trivial⟩ trivial ?_ ?_
     ·
      have h9 := hx2.len; have h8 := hx2.log; simp only [PNet.lg] at h9 h8
      exact ⟨by show x2.log.l.length ≤ 400; omega, by show lsz TSent.size x2.log.l ≤ 60 + x2.log.l.length * 20; omega, hx2.hst⟩
     clear hs; rintro ⟨s, F⟩ w ⟨hJ1, hJ2, hJ3⟩ hs
     simp only [List.cons_append, List.nil_append] at hs
     refine WC.seq' ?_
     refine WC.seq ?_
     refine WL.p Q0 (Yl.fieldAddr fa30_2 Q0) ?_
     refine WL.p Q0 (Yl.loadB sca28 Q0 hs Q1 Q0) ?_
     refine WL.p Q0 (Yl.len_sl slu28 Q0) ?_
     refine WL.p Q0 (Yl.lss Q0 Q0) ?_
     refine WL.next ?_
     refine WC.condS Q0 (fun h5 => ?_) (fun h5 => ?_)
     ·
      replace h5 := of_decide_eq_true h5
      skip
      refine WC.skipn ?_
      refine WC.block ?_
      refine WC.anyX (K := [box b4 _ _, ow s F]) mixed hs Q2 ?_
      clear hs; intro w hs
      refine WA.p (i := 0) Q0 Q6 Q6 Q6 Q0 (hs.only Q2) (fun w hs => Yl.fieldAddr fa30_2 Q0) ?_
      refine WA.p (i := 2) Q0 Q6 Q6 Q6 Q0 (hs.only Q2) (fun w hs => Yl.move Q0) ?_
      refine WA.two (i := 1) (j := 3) Q6 ?_ ?_
      ·
       refine WI.r (i := 1) Q0 Q0 (Yl.yr (Yl.loadB sca28 Q0 hs Q1 Q0)) (by rintro _ _ ⟨rfl, rfl⟩; exact hs.only Q2) ?_
       rintro _ _ ⟨rfl, rfl⟩
       refine WA.calld (i := 3) hs (T := 205) (b := b_) (c := c) Q2 (fun _ hs => hs.only Q2) Q6 Q0 Q0 (Yc.func Q0 fn176) (c_spec_l4Addr c b_ _ (hs.cur Q1) (Apart.now hb_c hs)) ?_
       clear hs; intro v w ho hR hs
       obtain ⟨x13, rfl, hokx13, hx13, hf13⟩ := hR
       clear ho hf13
       have hn13 := hosts3_len hx13.1; have hm13 := hx13.2
       have hh13 := hx13.1
       refine WA.p (i := 4) Q0 Q6 Q6 Q6 Q0 (hs.only Q2) (fun w hs => Yl.build bt41 Q0 Q4) ?_
       refine WA.r (i := 5) Q6 Q0 Q0 (Yr.buildSlice hs sll28 Q0 Q0 Q0 Q4 Q0) (by rintro _ w ⟨b14, rfl, hb, hs⟩; exact hs.only Q2) ?_
       clear hs; rintro _ w ⟨b14, rfl, hb, hs⟩; clear hb
       refine WA.r (i := 6) Q6 Q0 Q0 (Yr.append (s := s) (F := F) hs elt28 Q2 Q0 Q0 rfl (xs := [(⟨([104, 111, 109, 101] : Str), (⟨x13.host, x13.path⟩ : TAddr), false⟩ : TSent)]) (hs.box_cells Q1) (by intro x hx; obtain rfl := List.mem_singleton.1 hx; exact ⟨(by first | exact (show WfS [104, 111, 109, 101] from (by unfold WfS; simp)) | trivial | assumption | exact Flat.any (by assumption) | exact ⟨by omega, by omega⟩ | (show WfS _; unfold WfS; omega) | (show WfS _; unfold WfS; simp only [List.length_append, List.length_cons, List.length_nil] at *; omega) | (refine Ph.old ?_ hs; assumption)), ⟨(by first | exact (Flat.any hokx13).host | trivial | assumption | exact Flat.any (by assumption) | exact ⟨by omega, by omega⟩ | (show WfS _; unfold WfS; omega) | (show WfS _; unfold WfS; simp only [List.length_append, List.length_cons, List.length_nil] at *; omega) | (refine Ph.old ?_ hs; assumption)), (by first | exact (Flat.any hokx13).path | trivial | assumption | exact Flat.any (by assumption) | exact ⟨by omega, by omega⟩ | (show WfS _; unfold WfS; omega) | (show WfS _; unfold WfS; simp only [List.length_append, List.length_cons, List.length_nil] at *; omega) | (refine Ph.old ?_ hs; assumption))⟩, (by first | exact trivial | trivial | assumption | exact Flat.any (by assumption) | exact ⟨by omega, by omega⟩ | (show WfS _; unfold WfS; omega) | (show WfS _; unfold WfS; simp only [List.length_append, List.length_cons, List.length_nil] at *; omega) | (refine Ph.old ?_ hs; assumption))⟩) (by first | (unfold maxLen; omega) | omega | ((try simp only [lsz, strsz, List.length_map, PCache.lg, TCache.size, PPolicy.lg, TPolicy.size, List.length_cons, List.length_nil] at *); first | (unfold maxLen; omega) | omega)) (by first | (unfold maxLen; omega) | omega | ((try simp only [lsz, strsz, List.length_map, PCache.lg, TCache.size, PPolicy.lg, TPolicy.size, List.length_cons, List.length_nil] at *); first | (unfold maxLen; omega) | omega))) (by rintro _ w ⟨s15, F15, rfl, hl15, hs⟩; exact hs.only Q2) ?_
       clear hs; rintro _ w ⟨s15, F15, rfl, hl15, hs⟩
       refine WA.p (i := 7) Q0 Q6 Q6 Q6 Q0 (hs.only Q2) (fun w hs => Yl.fieldAddr fa30_2 Q0) ?_
       refine WA.s (i := 8) Q6 Q0 (Yr.storeB hs Q0 Q0 Q0 Q5 Q3 Q0 (by exact szf28)) (by rintro _ w hs; exact hs.only Q2) ?_
       clear hs; rintro _ w hs
       refine WA.done Q6 ?_
       refine At.blocknormal ?_
       refine At.roundC (s15, F15) (hs.only Q2) ⟨by rfl, by rfl, by rfl, by rfl, by rfl, by rfl, by rfl, by rfl, trivial⟩ trivial ?_ ?_
       ·
        show 400 - s15.l.length < 400 - s.l.length
        rw [hl15, List.length_append, List.length_singleton]; omega
       ·
        refine ⟨by rw [hl15, List.length_append, List.length_singleton]; omega, ?_, ?_⟩
        · rw [hl15, lsz_app, lsz_one, List.length_append, List.length_singleton]; simp only [TSent.size, TAddr.size, List.length_cons, List.length_nil]; omega
        · rw [hl15]; intro x hx; rcases List.mem_append.1 hx with h | h
          · exact hJ3 x h
          · obtain rfl := List.mem_singleton.1 h; assumption
      ·
       refine WI.calld (i := 3) hs (T := 205) (b := b_) (c := c) Q2 (fun _ hs => hs.only Q2) Q0 Q0 (Yc.func Q0 fn176) (c_spec_l4Addr c b_ _ (hs.cur Q1) (Apart.now hb_c hs)) ?_
       clear hs; intro v w ho hR hs
       obtain ⟨x16, rfl, hokx16, hx16, hf16⟩ := hR
       clear ho hf16
       have hn16 := hosts3_len hx16.1; have hm16 := hx16.2
       have hh16 := hx16.1
       refine WA.p (i := 4) Q0 Q6 Q6 Q6 Q0 (hs.only Q2) (fun w hs => Yl.build bt41 Q0 Q4) ?_
       refine WA.dag' [(⟨1, 31, [], (fun _ v cs => v = Sl.v s ∧ cs = [])⟩, []), (⟨5, 35, [], (fun _ v cs => ∃ b, v = .slice (some ⟨b, 0, none⟩) 1 1 ∧ cs = [box b 41 ((Ph.enc ((⟨([104, 111, 109, 101] : Str), (⟨x16.host, x16.path⟩ : TAddr), false⟩ : TSent))))])⟩, [])] [false, false] [(0, _), (2, _), (3, _), (7, _), (8, _), (13, _), (18, _), (24, _), (26, _), (27, _), (28, _), (29, _), (30, _), (32, _), (33, _), (34, _)] ⟨by rfl, by rfl, by rfl, by rfl, by rfl, by rfl, by rfl, by rfl, by rfl, by rfl, by rfl, by rfl, by rfl, by rfl, by rfl, by rfl, trivial⟩ Q0 Q6 Q6 Q6 Q6 Q6 Q6 Q6 Q6 (fun _ hs => hs.only Q2) hs (fuel := 3) ⟨⟨local_const, ?_⟩, ⟨local_const, ?_⟩, trivial⟩ ?_
       ·
        clear hs
        intro w R hs
        simp only [List.cons_append, List.nil_append] at hs
        exact Gives.p' Q0 (Yl.loadB sca28 Q0 hs Q1 Q0) ⟨[], ⟨rfl, rfl⟩, hs⟩
       ·
        clear hs
        intro w R hs
        simp only [List.cons_append, List.nil_append] at hs
        exact Gives.rr' Q0 (Yr.buildSlice hs sll28 Q0 Q0 Q0 Q4 Q0) (fun _ _ ⟨b, hv, _, hs1⟩ => ⟨[box b 41 ((Ph.enc ((⟨([104, 111, 109, 101] : Str), (⟨x16.host, x16.path⟩ : TAddr), false⟩ : TSent))))], ⟨b, hv, rfl⟩, hs1⟩)
       clear hs
       rintro _ _ ⟨rfl, rfl⟩
       rintro _ _ ⟨b18, rfl, rfl⟩
       intro w hs
       simp only [List.cons_append, List.nil_append, cond_true, cond_false] at hs
       refine WA.r (i := 6) Q6 Q0 Q0 (Yr.append (s := s) (F := F) hs elt28 Q2 Q0 Q0 rfl (xs := [(⟨([104, 111, 109, 101] : Str), (⟨x16.host, x16.path⟩ : TAddr), false⟩ : TSent)]) (hs.box_cells Q1) (by intro x hx; obtain rfl := List.mem_singleton.1 hx; exact ⟨(by first | exact (show WfS [104, 111, 109, 101] from (by unfold WfS; simp)) | trivial | assumption | exact Flat.any (by assumption) | exact ⟨by omega, by omega⟩ | (show WfS _; unfold WfS; omega) | (show WfS _; unfold WfS; simp only [List.length_append, List.length_cons, List.length_nil] at *; omega) | (refine Ph.old ?_ hs; assumption)), ⟨(by first | exact (Flat.any hokx16).host | trivial | assumption | exact Flat.any (by assumption) | exact ⟨by omega, by omega⟩ | (show WfS _; unfold WfS; omega) | (show WfS _; unfold WfS; simp only [List.length_append, List.length_cons, List.length_nil] at *; omega) | (refine Ph.old ?_ hs; assumption)), (by first | exact (Flat.any hokx16).path | trivial | assumption | exact Flat.any (by assumption) | exact ⟨by omega, by omega⟩ | (show WfS _; unfold WfS; omega) | (show WfS _; unfold WfS; simp only [List.length_append, List.length_cons, List.length_nil] at *; omega) | (refine Ph.old ?_ hs; assumption))⟩, (by first | exact trivial | trivial | assumption | exact Flat.any (by assumption) | exact ⟨by omega, by omega⟩ | (show WfS _; unfold WfS; omega) | (show WfS _; unfold WfS; simp only [List.length_append, List.length_cons, List.length_nil] at *; omega) | (refine Ph.old ?_ hs; assumption))⟩) (by first | (unfold maxLen; omega) | omega | ((try simp only [lsz, strsz, List.length_map, PCache.lg, TCache.size, PPolicy.lg, TPolicy.size, List.length_cons, List.length_nil] at *); first | (unfold maxLen; omega) | omega)) (by first | (unfold maxLen; omega) | omega | ((try simp only [lsz, strsz, List.length_map, PCache.lg, TCache.size, PPolicy.lg, TPolicy.size, List.length_cons, List.length_nil] at *); first | (unfold maxLen; omega) | omega))) (by rintro _ w ⟨s19, F19, rfl, hl19, hs⟩; exact hs.only Q2) ?_
       clear hs; rintro _ w ⟨s19, F19, rfl, hl19, hs⟩
       refine WA.p (i := 7) Q0 Q6 Q6 Q6 Q0 (hs.only Q2) (fun w hs => Yl.fieldAddr fa30_2 Q0) ?_
       refine WA.s (i := 8) Q6 Q0 (Yr.storeB hs Q0 Q0 Q0 Q5 Q3 Q0 (by exact szf28)) (by rintro _ w hs; exact hs.only Q2) ?_
       clear hs; rintro _ w hs
       refine WA.done Q6 ?_
       refine At.blocknormal ?_
       refine At.roundC (s19, F19) (hs.only Q2) ⟨by rfl, by rfl, by rfl, by rfl, by rfl, by rfl, by rfl, by rfl, trivial⟩ trivial ?_ ?_
       ·
        show 400 - s19.l.length < 400 - s.l.length
        rw [hl19, List.length_append, List.length_singleton]; omega
       ·
        refine ⟨by rw [hl19, List.length_append, List.length_singleton]; omega, ?_, ?_⟩
        · rw [hl19, lsz_app, lsz_one, List.length_append, List.length_singleton]; simp only [TSent.size, TAddr.size, List.length_cons, List.length_nil]; omega
        · rw [hl19]; intro x hx; rcases List.mem_append.1 hx with h | h
          · exact hJ3 x h
          · obtain rfl := List.mem_singleton.1 h; assumption
     ·
      replace h5 := of_decide_eq_false h5
      refine WC.exit ?_
      refine At.thenexit ?_
      refine At.thenexit ?_
      refine At.blockexit ?_
      refine At.blocknormal ?_
      refine At.then_ ?_
      refine WC.seq ?_
      refine WL.p Q0 (Yl.loadAB agg30 Q0 hs Q1 Q0 Q0) ?_
      refine WL.s (Yr.storeB hs Q0 Q0 Q0 Q5 Q3 Q0 (by exact szf30)) ?_
      clear hs; rintro _ w hs
      refine WL.next ?_
      refine WC.ret ?_
      refine fin1c rfl agg30 Q0 hs Q1 Q0 ?_
      obtain ⟨Fj20, hs⟩ : ∃ F, Sat _ _ _ (ow (⟨x2.servers, x2.cache, s, x2.now⟩ : PNet) F :: _) := ⟨_, PNet.join (⟨x2.servers, x2.cache, s, x2.now⟩ : PNet) (hs.sel (D := [ow x2.servers K3_0, ow x2.cache K3_1, ow s F]) Q2) (by first | exact (Flat.any hfl3.1) | trivial | assumption | exact Flat.any (by assumption) | exact ⟨by omega, by omega⟩ | (show WfS _; unfold WfS; omega) | (show WfS _; unfold WfS; simp only [List.length_append, List.length_cons, List.length_nil] at *; omega) | (refine Ph.old ?_ hs; assumption))⟩
      try simp only [List.cons_append, List.nil_append] at hs
      refine RetD.mk hs Q1 ?_
      refine ⟨(⟨x2.servers, x2.cache, s, x2.now⟩ : PNet), rfl, trivial, ?_, ?_⟩
      ·
       exact ⟨(Nat.le_trans hx2.srv Q7), (hx2.cch), (by show lsz TSent.size s.l ≤ 9000; omega), (hJ3), (hx2.now)⟩
      ·
       exact hs.freshD (x := (⟨x2.servers, x2.cache, s, x2.now⟩ : PNet)) (F := Fj20) Q2
    ·
     replace h4 := of_decide_eq_false h4
     refine WC.skip ?_
     refine At.blocknormal ?_
     refine At.then_ ?_
     refine WC.seq ?_
     refine WL.p Q0 (Yl.loadAB agg30 Q0 hs Q1 Q0 Q0) ?_
     refine WL.s (Yr.storeB hs Q0 Q0 Q0 Q5 Q3 Q0 (by exact szf30)) ?_
     clear hs; rintro _ w hs
     refine WL.next ?_
     refine WC.ret ?_
     refine fin1c rfl agg30 Q0 hs Q1 Q0 ?_
     obtain ⟨Fj21, hs⟩ : ∃ F, Sat _ _ _ (ow (⟨x2.servers, x2.cache, x2.log, x2.now⟩ : PNet) F :: _) := ⟨_, PNet.join (⟨x2.servers, x2.cache, x2.log, x2.now⟩ : PNet) (hs.sel (D := [ow x2.servers K3_0, ow x2.cache K3_1, ow x2.log K3_2]) Q2) (by first | exact (Flat.any hfl3.1) | trivial | assumption | exact Flat.any (by assumption) | exact ⟨by omega, by omega⟩ | (show WfS _; unfold WfS; omega) | (show WfS _; unfold WfS; simp only [List.length_append, List.length_cons, List.length_nil] at *; omega) | (refine Ph.old ?_ hs; assumption))⟩
     try simp only [List.cons_append, List.nil_append] at hs
     refine RetD.mk hs Q1 ?_
     refine ⟨(⟨x2.servers, x2.cache, x2.log, x2.now⟩ : PNet), rfl, trivial, ?_, ?_⟩
     ·
      exact ⟨(Nat.le_trans hx2.srv Q7), (hx2.cch), (Nat.le_trans hx2.log Q7), (hx2.hst), (hx2.now)⟩
     ·
      exact hs.freshD (x := (⟨x2.servers, x2.cache, x2.log, x2.now⟩ : PNet)) (F := Fj21) Q2

theorem c_spec_DrawSentTo (code : (Sl UInt8)) (w : World) (h_code : Ph.ok w code)  : Calls Tryz.prog 11 [Sl.v code].toArray w (Ret w (fun v w' => ∃ (n : PNet) (h : Str), v = .tuple #[.agg (Ph.enc n).toArray, S h] ∧ (Ph.ok w' h) ∧ (NetAt n.lg 90000 240300 9000 ∧ h ∈ hosts3) ∧ Fresh w n w')) := by
 refine enterN 13 Tryz.func11 rfl rfl rfl ?_
 have hs := Sat.start w
 refine WC.seq ?_
 refine WL.r Q0 (Yr.alloc hs zt30) ?_
 clear hs; rintro _ w ⟨b1, rfl, hb, hs⟩; clear hb
 refine Qa ?_
 refine WL.next ?_
 refine WC.seq ?_
 refine Qm ?_
 refine WL.calln hs Q0 (Yc.func Q0 fn83) (c_spec_l1New _ _ (Ph.old h_code hs)) ?_
 clear hs; intro c2 w hs
 refine Qa ?_
 refine WL.next ?_
 refine WC.seq ?_
 refine Qm ?_
 refine WL.calld hs (T := 205) (b := code) (c := c2) Q2 Q0 (Yc.func Q0 fn84) (c_spec_l14Any c2 code _ (hs.cur Q1) (Apart.new (by first | assumption) hs Q1)) ?_
 clear hs; intro v w ho hR hs
 obtain ⟨x3, rfl, _, hx3, hf3⟩ := hR
 obtain ⟨F3, hs⟩ := hs.addF ho hf3
 clear ho hf3
 refine WL.r Q0 (Yr.alloc hs zt30) ?_
 clear hs; rintro _ w ⟨b4, rfl, hb, hs⟩; clear hb
 refine WL.s (Yr.storeB hs Q0 Q0 Q0 Q5 Q3 Q0 (by exact szf30)) ?_
 clear hs; rintro _ w hs
 refine WL.next ?_
 refine WC.anyn2 (c := box b1 _ _) mixed hs (by repeat (first | exact Ext.here | apply Ext.there)) ?_
 clear hs; intro w hs
 refine WA.p (i := 0) Q0 Q6 Q6 Q6 Q0 (hs.only Q2) (fun w hs => Yl.loadAB agg30 Q0 hs Q1 Q0 Q0) ?_
 refine WA.p (i := 1) Q0 Q6 Q6 Q6 Q0 (hs.only Q2) (fun w hs => Yl.move Q0) ?_
 refine WA.calld (i := 2) hs (T := 205) (b := code) (c := c2) Q2 (fun _ hs => hs.only Q2) Q6 Q0 Q0 (Yc.func Q0 fn85) (c_spec_l4Host c2 code _ (hs.cur Q1) (Apart.new (by first | assumption) hs Q1)) ?_
 clear hs; intro v w ho hR hs
 obtain ⟨x5, rfl, hokx5, hx5, hf5⟩ := hR
 clear ho hf5
 have hn5 := hosts3_len hx5
 refine WA.s (i := 3) Q6 Q0 (Yr.storeB hs Q0 Q0 Q0 Q5 Q3 Q0 (by exact szf30)) (by rintro _ w hs; exact hs.only Q2) ?_
 clear hs; rintro _ w hs
 refine WA.p (i := 4) Q0 Q6 Q6 Q6 Q0 (hs.only Q2) (fun w hs => Yl.assign Q0) ?_
 refine WA.donen Q6 ?_
 refine WC.ret ?_
 refine fin2c rfl agg30 Q0 Q0 hs Q1 Q0 ?_
 refine Ret.mk hs ?_
 refine ⟨x3, _, rfl, (by first | exact (Flat.any hokx5) | trivial | assumption | exact Flat.any (by assumption) | exact ⟨by omega, by omega⟩ | (show WfS _; unfold WfS; omega) | (show WfS _; unfold WfS; simp only [List.length_append, List.length_cons, List.length_nil] at *; omega) | (refine Ph.old ?_ hs; assumption)), ?_, ?_⟩
 ·
  repeat' apply And.intro
  all_goals (try dsimp only)
  all_goals first | trivial | assumption | omega | ((try simp only [List.length_append, List.length_cons, List.length_nil, lsz_app, lsz_one, lsz_cons, lsz_nil, TAddr.size, TResponse.size, TRequest.size, TPolicy.size, TEntry.size, TCache.size, strsz, TLine.size, TSent.size, TServer.size, TFile.size, List.map_append, List.map_cons, List.map_nil, PServer.lg, PPolicy.lg, PCache.lg] at *); first | omega | assumption)
 ·
  exact hs.fresh (x := x3) (F := F3) Q1

theorem c_impl_SentTo (n : PNet) (host : Str) (w : World) (h_n : Ph.ok w n) (hb : n.lg.size ≤ 1048576) : Calls Tryz.prog 12 [.agg #[Sl.v n.servers, Sl.v n.cache.entries, Sl.v n.log, I n.now], S host].toArray w (Ret w (fun v w' => ∃ x : Sl TSent, v = x.v ∧ x.l = sentTo n.lg host ∧ Fresh w x w')) := by
 have hw := h_n.log.lt
 have hlen : n.log.l.length ≤ 1048576 := by simp only [TNet.size, lsz] at hb; omega
 refine enterN 27 Tryz.func12 rfl rfl rfl ?_
 have hs := Sat.start w
 refine WC.seq ?_
 refine WL.r Q0 (Yr.box hs Q0 Q0) ?_
 clear hs; rintro _ w ⟨b1, rfl, hb, hs⟩; clear hb
 refine Qa ?_
 refine WL.next ?_
 refine WC.seq ?_
 refine WL.r Q0 (Yr.buildSlice hs sll28 Q0 Q0 Q0 Q4 Q0) ?_
 clear hs; rintro _ w ⟨b2, rfl, hb, hs⟩; clear hb
 refine Qa ?_
 refine WL.next ?_
 refine WC.seq' ?_
 refine WC.seq ?_
 refine WL.p Q0 (Yl.fieldAddr fa30_2 Q0) ?_
 refine WL.p Q0 (Yl.loadB sca28 Q0 hs Q1 Q0) ?_
 refine WL.p Q0 (Yl.len_sl slu28 Q0) ?_
 refine Qm ?_
 refine WL.next ?_
 refine WC.block ?_
 replace hs := Sat.boxow (l := ([] : List TSent)) hs rfl rfl (by simp) (ownL_mk_flat (by simp))
 refine WC.loopC (ι := Nat × Sl TSent × List Nat) (fun ⟨k, s, F⟩ => n.log.l.length - k) (fun ⟨k, s, F⟩ => [(12, I (k : Int)), (5, s.v)]) (fun ⟨k, s, F⟩ => [ow s F]) (fun ⟨k, s, F⟩ => k ≤ n.log.l.length ∧ s.l = (n.log.l.take k).filter (fun s => decide (s.to.host = host))) [(0, _), (1, _), (2, _), (4, _), (10, _), (11, _)] (0, ⟨[], some ⟨b2, 0, none⟩, 0⟩, [b2]) (hs.sel (D := [ow (⟨[], some ⟨b2, 0, none⟩, 0⟩ : Sl TSent) [b2]]) Q2) ⟨by rfl, by rfl, by rfl, by rfl, by rfl, by rfl, trivial⟩ ⟨by rfl, by rfl, trivial⟩ ?_ ?_
 ·
  exact ⟨Nat.zero_le _, rfl⟩
 clear hs; rintro ⟨k, s, F⟩ w ⟨hJ1, hJ2⟩ hs
 simp only [List.cons_append, List.nil_append] at hs
 refine WC.seq ?_
 refine WL.p Q0 (Yl.lss Q0 Q0) ?_
 refine WL.next ?_
 refine WC.seq' ?_
 refine WC.condS Q0 (fun h1 => ?_) (fun h1 => ?_)
 ·
  replace h1 := of_decide_eq_true h1
  obtain ⟨d, hd⟩ := exists_get (l := n.log.l) (k := k) Q7
  refine WC.skipn ?_
  refine WC.seq' ?_
  refine WC.block ?_
  refine WC.seq ?_
  refine WL.p Q0 (Yl.indexAddr slt28 Q0 Q0 (Ph.old h_n.log hs) Q0 (hd)) ?_
  refine WL.p Q0 (Yl.loadA agg41 Q0 (Sl.Ok.at_ (Ph.old h_n.log hs) (by assumption)).2 Q0) ?_
  refine WL.r Q0 (Yr.alloc hs zt41) ?_
  clear hs; rintro _ w ⟨b3, rfl, hb, hs⟩; clear hb
  refine WL.s (Yr.storeB hs Q0 Q0 Q0 Q5 Q3 Q0 (by exact szf41)) ?_
  clear hs; rintro _ w hs
  refine WL.next ?_
  refine WC.seq ?_
  refine WL.p Q0 (Yl.fieldAddr fa41_1 Q0) ?_
  refine WL.p Q0 (Yl.fieldAddr fa39_0 Q0) ?_
  refine WL.p Q0 (Yl.loadB sca9 Q0 hs Q1 Q0) ?_
  refine Qm ?_
  refine WL.p Q0 (Yl.eqs Q0 Q0) ?_
  refine WL.next ?_
  refine WC.condS Q0 (fun h2 => ?_) (fun h2 => ?_)
  ·
   replace h2 := of_decide_eq_true h2
   refine WC.region ?_
   refine Qm ?_
   refine WL.p Q0 (Yl.loadAB agg41 Q0 hs Q1 Q0 Q0) ?_
   refine WL.r Q0 (Yr.buildSlice hs sll28 Q0 Q0 Q0 Q4 Q0) ?_
   clear hs; rintro _ w ⟨b4, rfl, hb, hs⟩; clear hb
   refine WL.r Q0 (Yr.append (s := s) (F := F) hs elt28 Q2 Q0 Q0 rfl (xs := [d]) (hs.box_cells Q1) (by intro x hx; obtain rfl := List.mem_singleton.1 hx; exact Flat.any ((h_n.log : Sl.Ok _ _).elem hd)) (by have := filter_len (p := (fun s => decide (s.to.host = host))) (l := n.log.l) (k := k); rw [hJ2]; simp; unfold maxLen; omega) (by have := filter_len (p := (fun s => decide (s.to.host = host))) (l := n.log.l) (k := k); rw [hJ2]; simp; omega)) ?_
   clear hs; rintro _ w ⟨s5, F5, rfl, hl5, hs⟩
   refine Qa ?_
   refine WL.nil ?_
   refine At.blocknormal ?_
   refine At.then_ ?_
   refine WC.region ?_
   refine WL.p Q0 (Yl.add Q0 Q0 Q7) ?_
   refine Qm ?_
   refine WL.nil ?_
   refine At.roundC (k + 1, s5, F5) (hs.only Q2) ⟨by rfl, by rfl, by rfl, by rfl, by rfl, by rfl, trivial⟩ ⟨by rfl, by rfl, trivial⟩ ?_ ?_
   ·
    show n.log.l.length - (k + 1) < n.log.l.length - k
    omega
   ·
    exact ⟨by omega, by rw [hl5, hJ2]; exact filter_yes hd (by simpa using h2)⟩
  ·
   replace h2 := of_decide_eq_false h2
   refine WC.skip ?_
   refine At.blocknormal ?_
   refine At.then_ ?_
   refine WC.region ?_
   refine WL.p Q0 (Yl.add Q0 Q0 Q7) ?_
   refine Qm ?_
   refine WL.nil ?_
   refine At.roundC (k + 1, s, F) (hs.only Q2) ⟨by rfl, by rfl, by rfl, by rfl, by rfl, by rfl, trivial⟩ ⟨by rfl, by rfl, trivial⟩ ?_ ?_
   ·
    show n.log.l.length - (k + 1) < n.log.l.length - k
    omega
   ·
    exact ⟨by omega, by rw [hJ2]; exact filter_no hd (by simpa using h2)⟩
 ·
  replace h1 := of_decide_eq_false h1
  refine WC.exit ?_
  refine At.thenexit ?_
  refine At.thenexit ?_
  refine At.blockexit ?_
  refine At.then_ ?_
  refine WC.seq ?_
  refine Qm ?_
  refine Qa ?_
  refine WL.next ?_
  refine WC.ret ?_
  refine fin1' rfl Q0 ?_
  refine Ret.mk hs ?_
  exact ⟨s, rfl, by rw [hJ2, show k = n.log.l.length from by omega, List.take_length]; rfl, hs.fresh Q1⟩

theorem c_slices_SortFunc___impl_Addr_impl_Addr_ (x : (Sl TAddr)) (w : World) (F : List Nat) (hF : Own.own w x F) (hn : F.Nodup)  (hlen : x.l.length ≤ 4611686018427387903) : Calls Tryz.prog 177 [Sl.v x, .func (.func 178) #[] #[]].toArray w (RetM w x F (.tuple #[]) (fun a' => a'.l = x.l.mergeSort leA)) := by
 exact sortAddr_calls x F w hF hn hlen

theorem c_slices_Compact___impl_Addr_impl_Addr_ (s : (Sl TAddr)) (w : World) (F : List Nat) (hF : Own.own w s F) (hn : F.Nodup)   : Calls Tryz.prog 179 [Sl.v s].toArray w (RetO w F (fun s' : Sl TAddr => s'.l = cmpct s.l)) := by
 have hw := (Own.ok hF : Sl.Ok w s).lt
 refine enterN 61 Tryz.func179 rfl rfl rfl ?_
 have hs := Sat.markStart hF hn
 refine WC.seq ?_
 refine Qa ?_
 refine WL.next ?_
 refine WC.seq' ?_
 refine WC.seq ?_
 refine Qm ?_
 refine WL.p Q0 (Yl.len_sl slu35 Q0) ?_
 refine WL.p Q0 (Yl.lss Q0 Q0) ?_
 refine WL.next ?_
 refine WC.condS Q0 (fun h1 => ?_) (fun h1 => ?_)
 ·
  replace h1 := of_decide_eq_true h1
  refine WC.seq ?_
  refine Qm ?_
  refine Qa ?_
  refine WL.next ?_
  refine WC.ret ?_
  refine At.thenret ?_
  refine fin1' rfl Q0 ?_
  exact RetO.of hs Q1 rfl (by
    have h9 : s.l.take 1 = s.l := List.take_of_length_le Q7
    have h8 := cmp_one s.l
    rw [h9] at h8
    exact h8.symm)
 ·
  replace h1 := of_decide_eq_false h1
  refine WC.skipn ?_
  refine WC.seq' ?_
  refine WC.seq ?_
  refine Qa ?_
  refine WL.next ?_
  refine WC.block ?_
  refine WC.loopC (ι := Nat) (fun k => s.l.length - k) (fun k => [(3, I (k : Int))]) (fun _ => []) (fun k => 1 ≤ k ∧ cmpct (s.l.take k) = s.l.take k) [(0, _), (8, _)] 1 (hs) ⟨by rfl, by rfl, trivial⟩ ⟨by rfl, trivial⟩ ?_ ?_
  ·
   exact ⟨Nat.le_refl _, cmp_one _⟩
  clear hs; rintro k w ⟨hJ1, hJ2⟩ hs
  simp only [List.nil_append] at hs
  refine WC.seq' ?_
  refine WC.seq ?_
  refine Qm ?_
  refine Qm ?_
  refine WL.p Q0 (Yl.len_sl slu35 Q0) ?_
  refine WL.p Q0 (Yl.lss Q0 Q0) ?_
  refine WL.next ?_
  refine WC.condS Q0 (fun h2 => ?_) (fun h2 => ?_)
  ·
   replace h2 := of_decide_eq_true h2
   obtain ⟨d, hdd⟩ := exists_get (l := s.l) (k := k) Q7
   obtain ⟨e, hde⟩ := exists_get (l := s.l) (k := k - 1) Q7
   refine WC.skipn ?_
   refine WC.seq' ?_
   refine WC.block ?_
   refine WC.quietn mixed Q6 hs ?_
   refine WQ.p Q0 (fun w hs => Yl.move Q0) ?_
   refine WQ.p Q0 (fun w hs => Yl.move Q0) ?_
   refine WQ.p Q0 (fun w hs => Yl.indexAddr slt35 Q0 Q0 (hs.okow (x := s) (F := F) Q1) (by first | rfl | omega) (hdd)) ?_
   refine WQ.p Q0 (fun w hs => Yl.loadA agg39 Q0 (Sl.Ok.at_ (hs.okow (x := s) (F := F) Q1) (by assumption)).2 Q0) ?_
   refine WQ.p Q0 (fun w hs => Yl.move Q0) ?_
   refine WQ.p Q0 (fun w hs => Yl.move Q0) ?_
   refine WQ.p Q0 (fun w hs => Yl.sub_ Q0 Q0 Q7) ?_
   refine WQ.p Q0 (fun w hs => Yl.indexAddr slt35 Q0 Q0 (hs.okow (x := s) (F := F) Q1) (by first | rfl | omega) (hde)) ?_
   refine WQ.p Q0 (fun w hs => Yl.loadA agg39 Q0 (Sl.Ok.at_ (hs.okow (x := s) (F := F) Q1) (by assumption)).2 Q0) ?_
   refine WQ.p Q0 (fun w hs => Yl.eqt eqt39 Q0 Q0) ?_
   refine WQ.next ?_
   clear hs; intro w hs
   refine WC.condS Q0 (fun h3 => ?_) (fun h3 => ?_)
   ·
    replace h3 := of_decide_eq_true h3
    refine WC.seq ?_
    refine Qm ?_
    refine Qm ?_
    refine WL.p Q0 (Yl.slice_sl (s := s) (l := k) (h := s.l.length) slt35 Q0 (Sl.Ok.le (hs.okow (x := s) (F := F) Q1)) ⟨_, by rfl⟩ rfl Q7 (by first | omega | exact Nat.le_refl _)) ?_
    refine Qa ?_
    refine WL.next ?_
    refine WC.seq' ?_
    refine WC.seq ?_
    refine Qa ?_
    refine WL.next ?_
    refine WC.block ?_
    refine WC.loopC (ι := Nat × Nat × Sl TAddr × List Nat) (fun ⟨m, j, z, F1⟩ => s.l.length - j) (fun ⟨m, j, z, F1⟩ => [(3, I (m : Int)), (5, I (j : Int))]) (fun ⟨m, j, z, F1⟩ => [ow z F1]) (fun ⟨m, j, z, F1⟩ => 1 ≤ j ∧ m + 1 ≤ k + j ∧ k + j ≤ s.l.length ∧ z.v = s.v ∧ z.l.length = s.l.length ∧ z.l.take m = cmpct (s.l.take (k + j)) ∧ z.l.drop (k + j - 1) = s.l.drop (k + j - 1)) [(0, _), (4, _), (8, _), (13, _), (25, _)] (k, 1, s, F) (hs.sel (D := [ow s F]) Q2) ⟨by rfl, by rfl, by rfl, by rfl, by rfl, trivial⟩ ⟨by rfl, by rfl, trivial⟩ ?_ ?_
    ·
     exact ⟨Nat.le_refl _, Nat.le_refl _, by omega, rfl, rfl, cmp_same hJ2.symm Q7 hde hdd (by assumption), rfl⟩
    clear hs; rintro ⟨m, j, z, F1⟩ w ⟨hI1, hI2, hI3, hI4, hI5, hI6, hI7⟩ hs
    simp only [List.cons_append, List.nil_append] at hs
    have hcv : (z.cut k z.l.length).v = (s.cut k s.l.length).v := cut_v hI4
    have hcl : (s.cut k s.l.length).l.length = s.l.length - k := Sl.cut_len (Nat.le_refl _)
    refine WC.seq' ?_
    refine WC.seq ?_
    refine Qm ?_
    refine Qm ?_
    refine WL.p Q0 (Yl.len_sl slu35 Q0) ?_
    refine WL.p Q0 (Yl.lss Q0 Q0) ?_
    refine WL.next ?_
    refine WC.condS Q0 (fun h4 => ?_) (fun h4 => ?_)
    ·
     replace h4 := of_decide_eq_true h4
     obtain ⟨d, hdd⟩ := exists_get (l := s.l) (k := k + j) Q7
     obtain ⟨e, hde⟩ := exists_get (l := s.l) (k := k + j - 1) Q7
     have hzd : z.l[k + j]? = some d := get_of_drop (by have := drop_next hI7; rwa [show k + j - 1 + 1 = k + j from by omega] at this) hdd
     have hze : z.l[k + j - 1]? = some e := get_of_drop hI7 hde
     have hd : (z.cut k z.l.length).l[j]? = some d := by rw [cut_get?]; exact hzd
     have hd1 : (z.cut k z.l.length).l[j - 1]? = some e := by rw [cut_get?, show k + (j - 1) = k + j - 1 from by omega]; exact hze
     have hml : m < z.l.length := by omega
     refine WC.skipn ?_
     refine WC.seq' ?_
     refine WC.block ?_
     refine WC.quietn mixed Q6 hs ?_
     refine WQ.p Q0 (fun w hs => Yl.move Q0) ?_
     refine WQ.p Q0 (fun w hs => Yl.move Q0) ?_
     refine WQ.p Q0 (fun w hs => Yl.indexAddrV slt35 Q0 hcv Q0 (Sl.Ok.cut (hs.okow (x := z) (F := F1) Q1) Q7 (Nat.le_refl _)) (by first | rfl | omega) (hd)) ?_
     refine WQ.p Q0 (fun w hs => Yl.loadA agg39 Q0 (Sl.Ok.at_ (Sl.Ok.cut (hs.okow (x := z) (F := F1) Q1) Q7 (Nat.le_refl _)) (by assumption)).2 Q0) ?_
     refine WQ.p Q0 (fun w hs => Yl.move Q0) ?_
     refine WQ.p Q0 (fun w hs => Yl.move Q0) ?_
     refine WQ.p Q0 (fun w hs => Yl.sub_ Q0 Q0 Q7) ?_
     refine WQ.p Q0 (fun w hs => Yl.indexAddrV slt35 Q0 hcv Q0 (Sl.Ok.cut (hs.okow (x := z) (F := F1) Q1) Q7 (Nat.le_refl _)) (by first | rfl | omega) (hd1)) ?_
     refine WQ.p Q0 (fun w hs => Yl.loadA agg39 Q0 (Sl.Ok.at_ (Sl.Ok.cut (hs.okow (x := z) (F := F1) Q1) Q7 (Nat.le_refl _)) (by assumption)).2 Q0) ?_
     refine WQ.p Q0 (fun w hs => Yl.net eqt39 Q0 Q0) ?_
     refine WQ.next ?_
     clear hs; intro w hs
     refine WC.condS Q0 (fun h5 => ?_) (fun h5 => ?_)
     ·
      replace h5 := not_eq_true h5
      replace h5 := of_decide_eq_false h5
      refine WC.seq ?_
      refine Qm ?_
      refine Qm ?_
      refine Qm ?_
      refine Qm ?_
      refine WL.p Q0 (Yl.indexAddrV slt35 Q0 hcv Q0 (Sl.Ok.cut (hs.okow (x := z) (F := F1) Q1) Q7 (Nat.le_refl _)) (by first | rfl | omega) (hd)) ?_
      refine WL.p Q0 (Yl.loadA agg39 Q0 (Sl.Ok.at_ (Sl.Ok.cut (hs.okow (x := z) (F := F1) Q1) Q7 (Nat.le_refl _)) (by assumption)).2 Q0) ?_
      refine WL.p Q0 (Yl.indexAddrV slt35 Q0 hI4 Q0 (hs.okow (x := z) (F := F1) Q1) (by first | rfl | omega) (List.getElem?_eq_getElem hml)) ?_
      refine WL.s (Yr.storeE (u := d) (k := m) (hs.flat (x := (d : TAddr)) (by exact Flat.any ((Own.ok hF : Sl.Ok _ s).elems d (List.mem_of_getElem? hdd)))) Q2 Q0 Q0 Q0 (by exact hml) ⟨_, by rfl, by rfl⟩ szf39) ?_
      clear hs; rintro _ w ⟨F1, hs⟩
      refine WL.next ?_
      refine WC.region ?_
      refine Qm ?_
      refine WL.p Q0 (Yl.add Q0 Q0 Q7) ?_
      refine Qa ?_
      refine WL.nil ?_
      refine At.blocknormal ?_
      refine At.then_ ?_
      refine WC.region ?_
      refine Qm ?_
      refine WL.p Q0 (Yl.add Q0 Q0 Q7) ?_
      refine Qa ?_
      refine WL.nil ?_
      refine At.roundC (m + 1, j + 1, ⟨z.l.set m d, z.a, z.c⟩, _) (hs.only Q2) ⟨by rfl, by rfl, by rfl, by rfl, by rfl, trivial⟩ ⟨by rfl, by rfl, trivial⟩ ?_ ?_
      ·
       show s.l.length - (j + 1) < s.l.length - j
       omega
      ·
       exact ⟨by omega, by omega, by omega, by rw [Sl.v_set]; exact hI4, by simpa using hI5, cmp_step (m := k + j) hI6 Q7 hde hdd hml (by assumption), by rw [List.drop_set_of_lt Q7, show k + (j + 1) - 1 = (k + j - 1) + 1 from by omega]; exact drop_next hI7⟩
     ·
      replace h5 := not_eq_false h5
      replace h5 := of_decide_eq_true h5
      refine WC.skip ?_
      refine At.blocknormal ?_
      refine At.then_ ?_
      refine WC.region ?_
      refine Qm ?_
      refine WL.p Q0 (Yl.add Q0 Q0 Q7) ?_
      refine Qa ?_
      refine WL.nil ?_
      refine At.roundC (m, j + 1, z, F1) (hs.only Q2) ⟨by rfl, by rfl, by rfl, by rfl, by rfl, trivial⟩ ⟨by rfl, by rfl, trivial⟩ ?_ ?_
      ·
       show s.l.length - (j + 1) < s.l.length - j
       omega
      ·
       exact ⟨by omega, by omega, by omega, hI4, hI5, cmp_same (m := k + j) hI6 Q7 hde hdd (by assumption), by rw [show k + (j + 1) - 1 = (k + j - 1) + 1 from by omega]; exact drop_next hI7⟩
    ·
     replace h4 := of_decide_eq_false h4
     refine WC.exit ?_
     refine At.thenexit ?_
     refine At.thenexit ?_
     refine At.blockexit ?_
     refine At.then_ ?_
     refine WC.seq ?_
     refine Qm ?_
     refine Qm ?_
     refine WL.p Q0 (Yl.slice_sl (s := z) (l := m) (h := z.l.length) slt35 (by exact (congrArg some hI4).symm) (Sl.Ok.le (hs.okow (x := z) (F := F1) Q1)) ⟨_, by rfl⟩ rfl Q7 (by first | omega | exact Nat.le_refl _)) ?_
     refine WL.s (Yr.clearTail (s := z) (F := F1) (k := m) hs elt35 Q2 Q0 Q7 (fun w => TAddr.zok w)) ?_
     clear hs; rintro _ w ⟨s2, hv2, hl2, hs⟩
     refine WL.next ?_
     refine WC.seq ?_
     refine Qm ?_
     refine Qm ?_
     refine WL.p Q0 (Yl.slice_sl (s := s2) (l := 0) (h := m) slt35 (by exact (congrArg some (hv2.trans hI4)).symm) (Sl.Ok.le (hs.okow (x := s2) (F := F1) Q1)) rfl ⟨_, by rfl⟩ Q7 (by first | omega | (rw [hl2]; simp; omega))) ?_
     refine Qa ?_
     refine WL.next ?_
     refine WC.ret ?_
     refine At.blockret ?_
     refine At.thenret ?_
     refine At.thenret ?_
     refine At.blockret ?_
     refine At.thenret ?_
     refine fin1' rfl Q0 ?_
     obtain ⟨F9, hs⟩ := Sat.cutow (lo := 0) (hi := m) (hs.sel (D := [ow s2 F1]) Q2) (Nat.zero_le _) (by rw [hl2]; simp; omega)
     exact RetO.of hs List.mem_cons_self rfl (by rw [Sl.cut_head, hl2, List.take_append_of_le_length (by simp; omega), List.take_take, Nat.min_self, hI6, show k + j = s.l.length from by omega, List.take_length])
   ·
    replace h3 := of_decide_eq_false h3
    refine WC.skip ?_
    refine At.blocknormal ?_
    refine At.then_ ?_
    refine WC.region ?_
    refine Qm ?_
    refine WL.p Q0 (Yl.add Q0 Q0 Q7) ?_
    refine Qa ?_
    refine WL.nil ?_
    refine At.roundC (k + 1) (hs.only Q2) ⟨by rfl, by rfl, trivial⟩ ⟨by rfl, trivial⟩ ?_ ?_
    ·
     omega
    ·
     exact ⟨by omega, cmp_grow hJ2 Q7 hde hdd (by assumption)⟩
  ·
   replace h2 := of_decide_eq_false h2
   refine WC.exit ?_
   refine At.thenexit ?_
   refine At.thenexit ?_
   refine At.blockexit ?_
   refine At.then_ ?_
   refine WC.seq ?_
   refine Qm ?_
   refine Qa ?_
   refine WL.next ?_
   refine WC.ret ?_
   refine fin1' rfl Q0 ?_
   exact RetO.of hs Q1 rfl (by rw [← List.take_of_length_le (show s.l.length ≤ k by omega)]; exact hJ2.symm)

theorem c_impl_SortAddrs (l : (Sl TAddr)) (w : World) (h_l : Ph.ok w l) (hbz : l.l.length ≤ 1048577) : Calls Tryz.prog 86 [Sl.v l].toArray w (Ret w (fun v w' => ∃ x : Sl TAddr, v = x.v ∧ x.l = sortA l.l ∧ Fresh w x w')) := by
 have hw := h_l.lt
 refine enterN 11 Tryz.func86 rfl rfl rfl ?_
 have hs := Sat.start w
 refine WC.seq ?_
 refine Qa ?_
 refine WL.next ?_
 refine WC.seq ?_
 refine WL.r Q0 (Yr.buildSlice hs sll35 Q0 Q0 Q0 Q4 Q0) ?_
 clear hs; rintro _ w ⟨b1, rfl, hb, hs⟩; clear hb
 refine Qm ?_
 replace hs := (Sat.boxow (l := ([] : List TAddr)) (hs.sel (D := [box b1 _ _]) Q2) rfl rfl (by simp [maxLen]) (ownL_mk_flat (by simp)))
 refine WL.r Q0 (Yr.appendS (s := (⟨[], some ⟨b1, 0, none⟩, _⟩ : Sl TAddr)) (F := [b1]) (r := l) hs elt35 Q2 Q0 Q0 (Ph.old h_l hs) (by simp; unfold maxLen; omega) (by simp; omega)) ?_
 clear hs; rintro _ w ⟨s2, F2, rfl, hl2, hs⟩
 refine Qa ?_
 refine WL.next ?_
 refine WC.seq ?_
 refine Qm ?_
 refine WL.callm (a := s2) (F := F2) hs Q2 Q0 (Yc.func Q0 fn177) (c_slices_SortFunc___impl_Addr_impl_Addr_ s2 _ F2 (own_of hs Q1) (nodup_of hs Q1) (by rw [hl2, List.nil_append]; omega)) ?_
 clear hs; intro a3 F3 w he3 hq3 hs
 have hv3 : Sl.v a3 = Sl.v s2 := Sl.enc_v he3
 refine WL.next ?_
 refine WC.seq ?_
 refine Qm ?_
 refine WL.callo (s := a3) (F := F3) hs Q2 Q0 (Yc.func Q0 fn179) (calls_conv (congrArg (fun z => ([z] : List Value).toArray) hv3) (c_slices_Compact___impl_Addr_impl_Addr_ a3 _ F3 (own_of hs Q1) (nodup_of hs Q1))) ?_
 clear hs; intro x4 F4 w hx4 hs
 refine Qa ?_
 refine WL.next ?_
 refine WC.ret ?_
 refine fin1' rfl Q0 ?_
 refine Ret.mk hs ?_
 exact ⟨x4, rfl, by rw [hx4, hq3, hl2, List.nil_append]; rfl, hs.fresh Q1⟩

theorem c_impl_SentSorted (l : (Sl TSent)) (w : World) (h_l : Ph.ok w l) (hbz : l.l.length ≤ 1048576) : Calls Tryz.prog 13 [Sl.v l].toArray w (Ret w (fun v w' => ∃ x : Sl TAddr, v = x.v ∧ x.l = sortA (l.l.map TSent.to) ∧ Fresh w x w')) := by
 have hw := h_l.lt
 refine enterN 21 Tryz.func13 rfl rfl rfl ?_
 have hs := Sat.start w
 refine WC.seq ?_
 refine Qa ?_
 refine WL.next ?_
 refine WC.seq ?_
 refine WL.r Q0 (Yr.buildSlice hs sll35 Q0 Q0 Q0 Q4 Q0) ?_
 clear hs; rintro _ w ⟨b1, rfl, hb, hs⟩; clear hb
 refine Qa ?_
 refine WL.next ?_
 refine WC.seq' ?_
 refine WC.seq ?_
 refine Qm ?_
 refine WL.p Q0 (Yl.len_sl slu28 Q0) ?_
 refine Qm ?_
 refine WL.next ?_
 refine WC.block ?_
 replace hs := Sat.boxow (l := ([] : List TAddr)) hs rfl rfl (by simp) (ownL_mk_flat (by simp))
 refine WC.loopC (ι := Nat × Sl TAddr × List Nat) (fun ⟨k, s, F⟩ => l.l.length - k) (fun ⟨k, s, F⟩ => [(9, I (k : Int)), (3, s.v)]) (fun ⟨k, s, F⟩ => [ow s F]) (fun ⟨k, s, F⟩ => k ≤ l.l.length ∧ s.l = (l.l.take k).map TSent.to) [(0, _), (2, _), (7, _), (8, _)] (0, ⟨[], some ⟨b1, 0, none⟩, 0⟩, [b1]) (hs.sel (D := [ow (⟨[], some ⟨b1, 0, none⟩, 0⟩ : Sl TAddr) [b1]]) Q2) ⟨by rfl, by rfl, by rfl, by rfl, trivial⟩ ⟨by rfl, by rfl, trivial⟩ ?_ ?_
 ·
  exact ⟨Nat.zero_le _, rfl⟩
 clear hs; rintro ⟨k, s, F⟩ w ⟨hJ1, hJ2⟩ hs
 simp only [List.cons_append, List.nil_append] at hs
 refine WC.seq ?_
 refine WL.p Q0 (Yl.lss Q0 Q0) ?_
 refine WL.next ?_
 refine WC.seq' ?_
 refine WC.condS Q0 (fun h1 => ?_) (fun h1 => ?_)
 ·
  replace h1 := of_decide_eq_true h1
  obtain ⟨d, hd⟩ := exists_get (l := l.l) (k := k) Q7
  refine WC.skipn ?_
  refine WC.seq' ?_
  refine WC.block ?_
  refine WC.seq ?_
  refine WL.p Q0 (Yl.indexAddr slt28 Q0 Q0 (Ph.old h_l hs) Q0 (hd)) ?_
  refine WL.p Q0 (Yl.loadA agg41 Q0 (Sl.Ok.at_ (Ph.old h_l hs) (by assumption)).2 Q0) ?_
  refine WL.r Q0 (Yr.alloc hs zt41) ?_
  clear hs; rintro _ w ⟨b2, rfl, hb, hs⟩; clear hb
  refine WL.s (Yr.storeB hs Q0 Q0 Q0 Q5 Q3 Q0 (by exact szf41)) ?_
  clear hs; rintro _ w hs
  refine WL.next ?_
  refine WC.region ?_
  refine Qm ?_
  refine WL.p Q0 (Yl.fieldAddr fa41_1 Q0) ?_
  refine WL.p Q0 (Yl.loadAB agg39 Q0 hs Q1 Q0 Q0) ?_
  refine WL.r Q0 (Yr.buildSlice hs sll35 Q0 Q0 Q0 Q4 Q0) ?_
  clear hs; rintro _ w ⟨b3, rfl, hb, hs⟩; clear hb
  refine WL.r Q0 (Yr.append (s := s) (F := F) hs elt35 Q2 Q0 Q0 rfl (xs := [d.to]) (hs.box_cells Q1) (by intro x hx; obtain rfl := List.mem_singleton.1 hx; exact Flat.any (Sl.Ok.elem h_l hd).to) (by rw [hJ2]; simp; unfold maxLen; omega) (by rw [hJ2]; simp; omega)) ?_
  clear hs; rintro _ w ⟨s4, F4, rfl, hl4, hs⟩
  refine Qa ?_
  refine WL.nil ?_
  refine At.blocknormal ?_
  refine At.then_ ?_
  refine WC.region ?_
  refine WL.p Q0 (Yl.add Q0 Q0 Q7) ?_
  refine Qm ?_
  refine WL.nil ?_
  refine At.roundC (k + 1, s4, F4) (hs.only Q2) ⟨by rfl, by rfl, by rfl, by rfl, trivial⟩ ⟨by rfl, by rfl, trivial⟩ ?_ ?_
  ·
   show l.l.length - (k + 1) < l.l.length - k
   omega
  ·
   exact ⟨by omega, by rw [hl4, hJ2, List.take_add_one, hd]; simp⟩
 ·
  replace h1 := of_decide_eq_false h1
  refine WC.exit ?_
  refine At.thenexit ?_
  refine At.thenexit ?_
  refine At.blockexit ?_
  refine At.then_ ?_
  refine WC.seq ?_
  refine Qm ?_
  refine WL.call hs Q0 (Yc.func Q0 fn86) (c_impl_SortAddrs _ _ (hs.okow (x := s) (F := F) Q1) (by rw [hJ2]; simp; omega)) ?_
  have hs0 := hs; clear hs; intro v w hb hR hs; clear hs
  obtain ⟨x5, rfl, hx5, hf5⟩ := hR
  obtain ⟨F5, hs⟩ := hf5.sat hs0 hb; clear hs0 hf5
  have hle5 := Sl.Ok.le (hs.okow (x := x5) (F := F5) Q1)
  refine Qa ?_
  refine WL.next ?_
  refine WC.ret ?_
  refine fin1' rfl Q0 ?_
  refine Ret.mk hs ?_
  exact ⟨x5, rfl, by rw [hx5, hJ2, show k = l.l.length from by omega, List.take_length], hs.fresh Q1⟩

theorem c_slices_Index___impl_Addr_impl_Addr_ (s : (Sl TAddr)) (v : TAddr) (w : World) (h_s : Ph.ok w s)  : Calls Tryz.prog 180 [Sl.v s, .agg #[S v.host, S v.path]].toArray w (RetP w (I (idxF (fun x => decide (v = x)) s.l 0))) := by
 have hw := h_s.lt
 refine enterN 19 Tryz.func180 rfl rfl rfl ?_
 have hs := Sat.start w
 refine WC.seq ?_
 refine WL.r Q0 (Yr.box hs Q0 Q0) ?_
 clear hs; rintro _ w ⟨b1, rfl, hb, hs⟩; clear hb
 refine Qa ?_
 refine WL.next ?_
 refine WC.seq' ?_
 refine WC.seq ?_
 refine Qm ?_
 refine WL.p Q0 (Yl.len_sl slu35 Q0) ?_
 refine Qm ?_
 refine WL.next ?_
 refine WC.block ?_
 refine WC.loopC (ι := Nat) (fun k => s.l.length - k) (fun k => [(8, I (k : Int))]) (fun _ => []) (fun k => idxF (fun x => decide (v = x)) s.l 0 = idxF (fun x => decide (v = x)) (s.l.drop k) k) [(0, _), (1, _), (3, _), (7, _)] 0 (hs) ⟨by rfl, by rfl, by rfl, by rfl, trivial⟩ ⟨by rfl, trivial⟩ ?_ ?_
 ·
  simp
 clear hs; rintro k w hJ hs
 simp only [List.nil_append] at hs
 refine WC.seq ?_
 refine WL.p Q0 (Yl.lss Q0 Q0) ?_
 refine WL.next ?_
 refine WC.seq' ?_
 refine WC.condS Q0 (fun h1 => ?_) (fun h1 => ?_)
 ·
  replace h1 := of_decide_eq_true h1
  obtain ⟨d, hd⟩ := exists_get (l := s.l) (k := k) Q7
  rw [drop_cons hd] at hJ
  refine WC.skipn ?_
  refine WC.seq' ?_
  refine WC.block ?_
  refine WC.seq ?_
  refine Qm ?_
  refine Qa ?_
  refine WL.next ?_
  refine WC.quietn mixed Q6 hs ?_
  refine WQ.p Q0 (fun w hs => Yl.loadAB agg39 Q0 hs Q1 Q0 Q0) ?_
  refine WQ.p Q0 (fun w hs => Yl.move Q0) ?_
  refine WQ.p Q0 (fun w hs => Yl.move Q0) ?_
  refine WQ.p Q0 (fun w hs => Yl.indexAddr slt35 Q0 Q0 (Ph.old h_s hs) Q0 (hd)) ?_
  refine WQ.p Q0 (fun w hs => Yl.loadA agg39 Q0 (Sl.Ok.at_ (Ph.old h_s hs) (by assumption)).2 Q0) ?_
  refine WQ.p Q0 (fun w hs => Yl.eqt eqt39 Q0 Q0) ?_
  refine WQ.next ?_
  clear hs; intro w hs
  refine WC.condS Q0 (fun h2 => ?_) (fun h2 => ?_)
  ·
   replace h2 := of_decide_eq_true h2
   refine WC.seq ?_
   refine Qm ?_
   refine Qa ?_
   refine WL.next ?_
   refine WC.ret ?_
   refine At.blockret ?_
   refine At.thenret ?_
   refine At.thenret ?_
   refine At.blockret ?_
   refine At.thenret ?_
   refine fin1' rfl Q0 ?_
   refine RetP.mk hs ?_
   rw [hJ]; simp_all [idxF]
  ·
   replace h2 := of_decide_eq_false h2
   refine WC.skip ?_
   refine At.blocknormal ?_
   refine At.then_ ?_
   refine WC.region ?_
   refine WL.p Q0 (Yl.add Q0 Q0 Q7) ?_
   refine Qm ?_
   refine WL.nil ?_
   refine At.roundC (k + 1) (hs.only Q2) ⟨by rfl, by rfl, by rfl, by rfl, trivial⟩ ⟨by rfl, trivial⟩ ?_ ?_
   ·
    omega
   ·
    rw [hJ]; simp_all [idxF]
 ·
  replace h1 := of_decide_eq_false h1
  rw [drop_out (l := s.l) Q7] at hJ
  refine WC.exit ?_
  refine At.thenexit ?_
  refine At.thenexit ?_
  refine At.blockexit ?_
  refine At.then_ ?_
  refine WC.seq ?_
  refine Qa ?_
  refine WL.next ?_
  refine WC.ret ?_
  refine fin1' rfl Q0 ?_
  refine RetP.mk hs ?_
  rw [hJ]; simp_all [idxF]

theorem c_slices_Contains___impl_Addr_impl_Addr_ (s : (Sl TAddr)) (v : TAddr) (w : World) (h_s : Ph.ok w s)  : Calls Tryz.prog 87 [Sl.v s, .agg #[S v.host, S v.path]].toArray w (RetP w (Bo (decide (v ∈ s.l)))) := by
 refine enterN 9 Tryz.func87 rfl rfl rfl ?_
 have hs := Sat.start w
 refine WC.seq ?_
 refine WL.r Q0 (Yr.box hs Q0 Q0) ?_
 clear hs; rintro _ w ⟨b1, rfl, hb, hs⟩; clear hb
 refine Qa ?_
 refine WL.next ?_
 refine WC.seq ?_
 refine Qm ?_
 refine WL.p Q0 (Yl.loadAB agg39 Q0 hs Q1 Q0 Q0) ?_
 refine WL.callp hs Q0 (Yc.func Q0 fn180) (c_slices_Index___impl_Addr_impl_Addr_ _ _ _ (Ph.old h_s hs)) ?_
 clear hs; intro w hs
 refine WL.p Q0 (Yl.geq Q0 Q0) ?_
 refine Qa ?_
 refine WL.next ?_
 refine WC.ret ?_
 refine fin1' rfl Q0 ?_
 refine RetP.mk hs ?_
 simp only [ge_iff_le, idxF_any, any_memA]

theorem c_impl_HasAddr (l : (Sl TAddr)) (a : TAddr) (w : World) (h_l : Ph.ok w l)  : Calls Tryz.prog 14 [Sl.v l, .agg #[S a.host, S a.path]].toArray w (RetP w (Bo (decide (a ∈ l.l)))) := by
 refine enterN 8 Tryz.func14 rfl rfl rfl ?_
 have hs := Sat.start w
 refine WC.seq ?_
 refine WL.r Q0 (Yr.box hs Q0 Q0) ?_
 clear hs; rintro _ w ⟨b1, rfl, hb, hs⟩; clear hb
 refine Qa ?_
 refine WL.next ?_
 refine WC.seq ?_
 refine Qm ?_
 refine WL.p Q0 (Yl.loadAB agg39 Q0 hs Q1 Q0 Q0) ?_
 refine WL.callp hs Q0 (Yc.func Q0 fn87) (c_slices_Contains___impl_Addr_impl_Addr_ _ _ _ (Ph.old h_l hs)) ?_
 clear hs; intro w hs
 refine Qa ?_
 refine WL.next ?_
 refine WC.ret ?_
 refine fin1' rfl Q0 ?_
 refine RetP.mk hs ?_
 simp_all

theorem c_spec_DrawWaitNet (code : (Sl UInt8)) (w : World) (h_code : Ph.ok w code)  : Calls Tryz.prog 15 [Sl.v code].toArray w (Ret w (fun v w' => ∃ (n : PNet) (t : Int), v = .tuple #[.agg (Ph.enc n).toArray, I t] ∧ (Ph.ok w' t) ∧ (NetAt n.lg 90000 240300 9000 ∧ -1 ≤ t ∧ t ≤ 1001) ∧ Fresh w n w')) := by
 refine enterN 14 Tryz.func15 rfl rfl rfl ?_
 have hs := Sat.start w
 refine WC.seq ?_
 refine WL.r Q0 (Yr.alloc hs zt30) ?_
 clear hs; rintro _ w ⟨b1, rfl, hb, hs⟩; clear hb
 refine Qa ?_
 refine WL.next ?_
 refine WC.seq ?_
 refine Qm ?_
 refine WL.calln hs Q0 (Yc.func Q0 fn83) (c_spec_l1New _ _ (Ph.old h_code hs)) ?_
 clear hs; intro c2 w hs
 refine Qa ?_
 refine WL.next ?_
 refine WC.seq ?_
 refine Qm ?_
 refine WL.calld hs (T := 205) (b := code) (c := c2) Q2 Q0 (Yc.func Q0 fn84) (c_spec_l14Any c2 code _ (hs.cur Q1) (Apart.new (by first | assumption) hs Q1)) ?_
 clear hs; intro v w ho hR hs
 obtain ⟨x3, rfl, _, hx3, hf3⟩ := hR
 obtain ⟨F3, hs⟩ := hs.addF ho hf3
 clear ho hf3
 refine WL.r Q0 (Yr.alloc hs zt30) ?_
 clear hs; rintro _ w ⟨b4, rfl, hb, hs⟩; clear hb
 refine WL.s (Yr.storeB hs Q0 Q0 Q0 Q5 Q3 Q0 (by exact szf30)) ?_
 clear hs; rintro _ w hs
 refine WL.next ?_
 refine WC.anyn2 (c := box b1 _ _) mixed hs (by repeat (first | exact Ext.here | apply Ext.there)) ?_
 clear hs; intro w hs
 refine WA.p (i := 0) Q0 Q6 Q6 Q6 Q0 (hs.only Q2) (fun w hs => Yl.loadAB agg30 Q0 hs Q1 Q0 Q0) ?_
 refine WA.p (i := 1) Q0 Q6 Q6 Q6 Q0 (hs.only Q2) (fun w hs => Yl.move Q0) ?_
 refine WA.r (i := 2) Q6 Q0 Q0 (Yr.buildSlice hs sll62 Q0 Q0 Q0 Q4 Q0) (by rintro _ w ⟨b5, rfl, hb, hs⟩; exact hs.only Q2) ?_
 clear hs; rintro _ w ⟨b5, rfl, hb, hs⟩; clear hb
 replace hs := Sat.boxow (l := ([0, 5, 1000, 1001, (-1)] : List Int)) (hs.sel (D := [box b5 _ _]) Q2) rfl rfl (by decide) (ownL_mk_flat (lit_int Q0))
 try simp only [List.cons_append, List.nil_append] at hs
 refine WA.calld (i := 3) hs (T := 205) (b := code) (c := c2) Q2 (fun _ hs => hs.only Q2) Q6 Q0 Q0 (Yc.func Q0 fn88) (c_spec_l1Int c2 code (⟨[0, 5, 1000, 1001, (-1)], some ⟨b5, 0, none⟩, 5⟩ : Sl Int) _ (Apart.own (s := (⟨[0, 5, 1000, 1001, (-1)], some ⟨b5, 0, none⟩, 5⟩ : Sl Int)) (F := [b5]) hs Q2) (by exact Nat.succ_pos _) (hs.cur Q1) (Apart.new (by first | assumption) hs Q1)) ?_
 clear hs; intro v w ho hR hs
 obtain ⟨x6, rfl, hokx6, hx6, hf6⟩ := hR
 clear ho hf6
 replace hx6 : x6 ∈ ([0, 5, 1000, 1001, (-1)] : List Int) := hx6
 have hn6 := mem_int (-1) (1001) hx6 Q0
 refine WA.s (i := 4) Q6 Q0 (Yr.storeB hs Q0 Q0 Q0 Q5 Q3 Q0 (by exact szf30)) (by rintro _ w hs; exact hs.only Q2) ?_
 clear hs; rintro _ w hs
 refine WA.p (i := 5) Q0 Q6 Q6 Q6 Q0 (hs.only Q2) (fun w hs => Yl.assign Q0) ?_
 refine WA.donen Q6 ?_
 refine WC.ret ?_
 refine fin2c rfl agg30 Q0 Q0 hs Q1 Q0 ?_
 refine Ret.mk hs ?_
 refine ⟨x3, _, rfl, (by first | exact (Flat.any hokx6) | trivial | assumption | exact Flat.any (by assumption) | exact ⟨by omega, by omega⟩ | (show WfS _; unfold WfS; omega) | (show WfS _; unfold WfS; simp only [List.length_append, List.length_cons, List.length_nil] at *; omega) | (refine Ph.old ?_ hs; assumption)), ?_, ?_⟩
 ·
  repeat' apply And.intro
  all_goals (try dsimp only)
  all_goals first | trivial | assumption | omega | ((try simp only [List.length_append, List.length_cons, List.length_nil, lsz_app, lsz_one, lsz_cons, lsz_nil, TAddr.size, TResponse.size, TRequest.size, TPolicy.size, TEntry.size, TCache.size, strsz, TLine.size, TSent.size, TServer.size, TFile.size, List.map_append, List.map_cons, List.map_nil, PServer.lg, PPolicy.lg, PCache.lg] at *); first | omega | assumption)
 ·
  exact hs.fresh (x := x3) (F := F3) Q1

theorem c_impl_InRange (n : Int) (low : Int) (high : Int) (w : World)   : Calls Tryz.prog 90 [I n, I low, I high].toArray w (RetP w (Bo (inR n low high))) := by
 refine enterN 15 Tryz.func90 rfl rfl rfl ?_
 have hs := Sat.start w
 refine WC.seq ?_
 refine Qa ?_
 refine WL.next ?_
 refine WC.seq ?_
 refine Qm ?_
 refine Qm ?_
 refine WL.p Q0 (Yl.leq Q0 Q0) ?_
 refine Qm ?_
 refine WL.split (d := 10) Q0 (fun h1 => ?_) (fun h1 => ?_)
 ·
  replace h1 := of_decide_eq_true h1
  refine WL.run (d := 10) Q0 Q0 ?_
  refine Qm ?_
  refine WL.run (d := 10) Q0 Q0 ?_
  refine Qm ?_
  refine WL.run (d := 10) Q0 Q0 ?_
  refine WL.p Q0 (Yl.leq Q0 Q0) ?_
  refine WL.p Q0 (Yl.pickT Q0 Q0) ?_
  refine Qa ?_
  refine WL.next ?_
  refine WC.ret ?_
  refine fin1' rfl Q0 ?_
  refine RetP.mk hs ?_
  simp [inR, h1]
 ·
  replace h1 := of_decide_eq_false h1
  refine WL.skip (d := 10) Q0 Q0 Q0 Q0 ?_
  refine WL.skip (d := 10) Q0 Q0 Q0 Q0 ?_
  refine WL.skip (d := 10) Q0 Q0 Q0 Q0 ?_
  refine WL.p Q0 (Yl.pickF Q0 Q0) ?_
  refine Qa ?_
  refine WL.next ?_
  refine WC.ret ?_
  refine fin1' rfl Q0 ?_
  refine RetP.mk hs ?_
  rw [inR_false.2 Q7]

theorem c_impl_IsName (s : Str) (w : World) (h_s : Ph.ok w s)  : Calls Tryz.prog 106 [S s].toArray w (RetP w (Bo (isName s))) := by
 have hw : s.length ≤ 9223372036854775807 := h_s
 refine enterN 23 Tryz.func106 rfl rfl rfl ?_
 have hs := Sat.start w
 refine WC.seq ?_
 refine Qa ?_
 refine WL.next ?_
 refine WC.seq' ?_
 refine WC.seq ?_
 refine Qa ?_
 refine WL.next ?_
 refine WC.block ?_
 refine WC.loopC (ι := Nat) (fun k => s.length - k) (fun k => [(3, I (k : Int))]) (fun _ => []) (fun k => s.all lower = (s.drop k).all lower) [(0, _)] 0 (hs) ⟨by rfl, trivial⟩ ⟨by rfl, trivial⟩ ?_ ?_
 ·
  simp
 clear hs; rintro k w hJ hs
 simp only [List.nil_append] at hs
 refine WC.seq' ?_
 refine WC.seq ?_
 refine Qm ?_
 refine Qm ?_
 refine WL.p Q0 (Yl.len_str str9 Q0) ?_
 refine WL.p Q0 (Yl.lss Q0 Q0) ?_
 refine WL.next ?_
 refine WC.condS Q0 (fun h1 => ?_) (fun h1 => ?_)
 ·
  replace h1 := of_decide_eq_true h1
  obtain ⟨d, hd⟩ := exists_get (l := s) (k := k) Q7
  rw [drop_cons hd] at hJ
  refine WC.skipn ?_
  refine WC.seq' ?_
  refine WC.block ?_
  refine WC.seq ?_
  refine Qm ?_
  refine Qm ?_
  refine WL.p Q0 (Yl.index str9 Q0 Q0 Q0 (by first | assumption | exact List.getElem?_eq_getElem Q7)) ?_
  refine WL.p Q0 (Yl.lss Q0 Q0) ?_
  refine Qm ?_
  refine WL.split (d := 14) Q0 (fun h2 => ?_) (fun h2 => ?_)
  ·
   replace h2 := of_decide_eq_true h2
   refine WL.skip (d := 14) Q0 Q0 Q0 Q0 ?_
   refine WL.skip (d := 14) Q0 Q0 Q0 Q0 ?_
   refine WL.skip (d := 14) Q0 Q0 Q0 Q0 ?_
   refine WL.skip (d := 14) Q0 Q0 Q0 Q0 ?_
   refine WL.p Q0 (Yl.pickT Q0 Q0) ?_
   refine WL.next ?_
   refine WC.condT Q0 ?_
   refine WC.seq ?_
   refine Qa ?_
   refine WL.next ?_
   refine WC.ret ?_
   refine At.blockret ?_
   refine At.thenret ?_
   refine At.thenret ?_
   refine At.blockret ?_
   refine At.thenret ?_
   refine fin1' rfl Q0 ?_
   refine RetP.mk hs ?_
   first
    | (simp [isName, hJ, lower]; done)
    | (simp [isName, hJ, lower]; omega)
    | simp_all [isName, hJ, lower]
  ·
   replace h2 := of_decide_eq_false h2
   refine WL.run (d := 14) Q0 Q0 ?_
   refine Qm ?_
   refine WL.run (d := 14) Q0 Q0 ?_
   refine Qm ?_
   refine WL.run (d := 14) Q0 Q0 ?_
   refine WL.p Q0 (Yl.index str9 Q0 Q0 Q0 (by first | assumption | exact List.getElem?_eq_getElem Q7)) ?_
   refine WL.run (d := 14) Q0 Q0 ?_
   refine WL.p Q0 (Yl.gtr Q0 Q0) ?_
   refine WL.p Q0 (Yl.pickF Q0 Q0) ?_
   refine WL.next ?_
   refine WC.condS Q0 (fun h3 => ?_) (fun h3 => ?_)
   ·
    replace h3 := of_decide_eq_true h3
    refine WC.seq ?_
    refine Qa ?_
    refine WL.next ?_
    refine WC.ret ?_
    refine At.blockret ?_
    refine At.thenret ?_
    refine At.thenret ?_
    refine At.blockret ?_
    refine At.thenret ?_
    refine fin1' rfl Q0 ?_
    refine RetP.mk hs ?_
    first
     | (simp [isName, hJ, lower]; done)
     | (simp [isName, hJ, lower]; omega)
     | simp_all [isName, hJ, lower]
   ·
    replace h3 := of_decide_eq_false h3
    refine WC.skip ?_
    refine At.blocknormal ?_
    refine At.then_ ?_
    refine WC.region ?_
    refine Qm ?_
    refine WL.p Q0 (Yl.add Q0 Q0 Q7) ?_
    refine Qa ?_
    refine WL.nil ?_
    refine At.roundC (k + 1) (hs.only Q2) ⟨by rfl, trivial⟩ ⟨by rfl, trivial⟩ ?_ ?_
    ·
     omega
    ·
     rw [hJ]; simp [lower]; omega
 ·
  replace h1 := of_decide_eq_false h1
  rw [drop_out (l := s) Q7] at hJ
  refine WC.exit ?_
  refine At.thenexit ?_
  refine At.thenexit ?_
  refine At.blockexit ?_
  refine At.then_ ?_
  refine WC.seq ?_
  refine Qm ?_
  refine WL.p Q0 (Yl.len_str str9 Q0) ?_
  refine WL.callp hs Q0 (Yc.func Q0 fn90) (c_impl_InRange _ _ _ _) ?_
  clear hs; intro w hs
  refine Qa ?_
  refine WL.next ?_
  refine WC.ret ?_
  refine fin1' rfl Q0 ?_
  refine RetP.mk hs ?_
  first
   | (simp [isName, hJ, lower]; done)
   | (simp [isName, hJ, lower]; omega)
   | simp_all [isName, hJ, lower]

theorem c_strings_Split (s : Str) (sep : Str) (w : World)  (h1 : s.length ≤ 2097152) (h2 : sep = [sep.headD 0]) (hm_ : ∃ m, w.cell? ⟨0, 0, none⟩ = some (.int .i64 m)) : Calls Tryz.prog 103 [S s, S sep].toArray w (Ret w (fun v w' => ∃ x : Sl Str, v = x.v ∧ x.l = splitC (sep.headD 0) s ∧ Fresh w x w')) := by
 rw [h2]; exact split_calls Tryz.strings_Split s (sep.headD 0) w h1 hm_

theorem c_strings_TrimPrefix (s : Str) (prefix_ : Str) (w : World)   : Calls Tryz.prog 274 [S s, S prefix_].toArray w (RetP w (S (if prefix_.isPrefixOf s then s.drop prefix_.length else s))) := by
 exact trim_calls Tryz.strings_TrimPrefix s prefix_ w

theorem c_strings_Join (elems : (Sl Str)) (sep : Str) (w : World) (h_elems : Ph.ok w elems) (h1 : elems.l.length ≤ 140737488355328) (h2 : (joinS elems.l sep).length ≤ 140737488355328) : Calls Tryz.prog 113 [Sl.v elems, S sep].toArray w (RetP w (S (joinS elems.l sep))) := by
 exact join_calls Tryz.strings_Join_none Tryz.strings_Join elems sep w h_elems h1 h2

theorem c_impl_IsValue (s : Str) (w : World) (h_s : Ph.ok w s)  : Calls Tryz.prog 234 [S s].toArray w (RetP w (Bo (isValue s))) := by
 have hw : s.length ≤ 9223372036854775807 := h_s
 refine enterN 42 Tryz.func234 rfl rfl rfl ?_
 have hs := Sat.start w
 refine WC.seq ?_
 refine Qa ?_
 refine WL.next ?_
 refine WC.seq' ?_
 refine WC.seq ?_
 refine Qa ?_
 refine WL.next ?_
 refine WC.block ?_
 refine WC.loopC (ι := Nat) (fun k => s.length - k) (fun k => [(3, I (k : Int))]) (fun _ => []) (fun k => s.all valueByte = (s.drop k).all valueByte) [(0, _)] 0 (hs) ⟨by rfl, trivial⟩ ⟨by rfl, trivial⟩ ?_ ?_
 ·
  simp
 clear hs; rintro k w hJ hs
 simp only [List.nil_append] at hs
 refine WC.seq' ?_
 refine WC.seq ?_
 refine Qm ?_
 refine Qm ?_
 refine WL.p Q0 (Yl.len_str str9 Q0) ?_
 refine WL.p Q0 (Yl.lss Q0 Q0) ?_
 refine WL.next ?_
 refine WC.condS Q0 (fun h1 => ?_) (fun h1 => ?_)
 ·
  replace h1 := of_decide_eq_true h1
  obtain ⟨d, hd⟩ := exists_get (l := s) (k := k) Q7
  rw [drop_cons hd] at hJ
  refine WC.skipn ?_
  refine WC.seq' ?_
  refine WC.block ?_
  refine WC.seq ?_
  refine Qm ?_
  refine Qm ?_
  refine WL.p Q0 (Yl.index str9 Q0 Q0 Q0 (by first | assumption | exact List.getElem?_eq_getElem Q7)) ?_
  refine WL.p Q0 (Yl.geq Q0 Q0) ?_
  refine Qm ?_
  refine WL.split (d := 14) Q0 (fun h2 => ?_) (fun h2 => ?_)
  ·
   replace h2 := of_decide_eq_true h2
   refine WL.run (d := 14) Q0 Q0 ?_
   refine Qm ?_
   refine WL.run (d := 14) Q0 Q0 ?_
   refine Qm ?_
   refine WL.run (d := 14) Q0 Q0 ?_
   refine WL.p Q0 (Yl.index str9 Q0 Q0 Q0 (by first | assumption | exact List.getElem?_eq_getElem Q7)) ?_
   refine WL.run (d := 14) Q0 Q0 ?_
   refine WL.p Q0 (Yl.leq Q0 Q0) ?_
   refine WL.p Q0 (Yl.pickT Q0 Q0) ?_
   refine Qm ?_
   refine WL.split (d := 20) Q0 (fun h3 => ?_) (fun h3 => ?_)
   ·
    replace h3 := of_decide_eq_true h3
    refine WL.skip (d := 20) Q0 Q0 Q0 Q0 ?_
    refine WL.skip (d := 20) Q0 Q0 Q0 Q0 ?_
    refine WL.skip (d := 20) Q0 Q0 Q0 Q0 ?_
    refine WL.skip (d := 20) Q0 Q0 Q0 Q0 ?_
    refine WL.skip (d := 20) Q0 Q0 Q0 Q0 ?_
    refine WL.skipU (d := 25) Q0 Q0 Q0 ?_
    refine WL.skipU (d := 25) Q0 Q0 Q0 ?_
    refine WL.skipU (d := 25) Q0 Q0 Q0 ?_
    refine WL.skipU (d := 25) Q0 Q0 Q0 ?_
    refine WL.skip (d := 20) Q0 Q0 Q0 Q0 ?_
    refine WL.p Q0 (Yl.pickT Q0 Q0) ?_
    refine Qm ?_
    refine WL.skip (d := 32) Q0 Q0 Q0 Q0 ?_
    refine WL.skip (d := 32) Q0 Q0 Q0 Q0 ?_
    refine WL.skip (d := 32) Q0 Q0 Q0 Q0 ?_
    refine WL.skip (d := 32) Q0 Q0 Q0 Q0 ?_
    refine WL.p Q0 (Yl.pickT Q0 Q0) ?_
    refine WL.p Q0 (Yl.not Q0) ?_
    refine WL.next ?_
    refine WC.condF Q0 ?_
    refine WC.skip ?_
    refine At.blocknormal ?_
    refine At.then_ ?_
    refine WC.region ?_
    refine Qm ?_
    refine WL.p Q0 (Yl.add Q0 Q0 Q7) ?_
    refine Qa ?_
    refine WL.nil ?_
    refine At.roundC (k + 1) (hs.only Q2) ⟨by rfl, trivial⟩ ⟨by rfl, trivial⟩ ?_ ?_
    ·
     omega
    ·
     rw [hJ]; simp [valueByte, lower, digit]; omega
   ·
    replace h3 := of_decide_eq_false h3
    refine WL.run (d := 20) Q0 Q0 ?_
    refine Qm ?_
    refine WL.run (d := 20) Q0 Q0 ?_
    refine Qm ?_
    refine WL.run (d := 20) Q0 Q0 ?_
    refine WL.p Q0 (Yl.index str9 Q0 Q0 Q0 (by first | assumption | exact List.getElem?_eq_getElem Q7)) ?_
    refine WL.run (d := 20) Q0 Q0 ?_
    refine WL.p Q0 (Yl.geq Q0 Q0) ?_
    refine WL.run (d := 20) Q0 Q0 ?_
    refine Qm ?_
    refine WL.split (d := 25) Q0 (fun h4 => ?_) (fun h4 => ?_)
    ·
     replace h4 := of_decide_eq_true h4
     refine WL.run (d := 25) Q0 Q0 ?_
     refine Qm ?_
     refine WL.run (d := 25) Q0 Q0 ?_
     refine Qm ?_
     refine WL.run (d := 25) Q0 Q0 ?_
     refine WL.p Q0 (Yl.index str9 Q0 Q0 Q0 (by first | assumption | exact List.getElem?_eq_getElem Q7)) ?_
     refine WL.run (d := 25) Q0 Q0 ?_
     refine WL.p Q0 (Yl.leq Q0 Q0) ?_
     refine WL.run (d := 20) Q0 Q0 ?_
     refine WL.p Q0 (Yl.pickT Q0 Q0) ?_
     refine WL.p Q0 (Yl.pickF Q0 Q0) ?_
     refine Qm ?_
     refine WL.split (d := 32) Q0 (fun h5 => ?_) (fun h5 => ?_)
     ·
      replace h5 := of_decide_eq_true h5
      refine WL.skip (d := 32) Q0 Q0 Q0 Q0 ?_
      refine WL.skip (d := 32) Q0 Q0 Q0 Q0 ?_
      refine WL.skip (d := 32) Q0 Q0 Q0 Q0 ?_
      refine WL.skip (d := 32) Q0 Q0 Q0 Q0 ?_
      refine WL.p Q0 (Yl.pickT Q0 Q0) ?_
      refine WL.p Q0 (Yl.not Q0) ?_
      refine WL.next ?_
      refine WC.condF Q0 ?_
      refine WC.skip ?_
      refine At.blocknormal ?_
      refine At.then_ ?_
      refine WC.region ?_
      refine Qm ?_
      refine WL.p Q0 (Yl.add Q0 Q0 Q7) ?_
      refine Qa ?_
      refine WL.nil ?_
      refine At.roundC (k + 1) (hs.only Q2) ⟨by rfl, trivial⟩ ⟨by rfl, trivial⟩ ?_ ?_
      ·
       omega
      ·
       rw [hJ]; simp [valueByte, lower, digit]; omega
     ·
      replace h5 := of_decide_eq_false h5
      refine WL.run (d := 32) Q0 Q0 ?_
      refine Qm ?_
      refine WL.run (d := 32) Q0 Q0 ?_
      refine Qm ?_
      refine WL.run (d := 32) Q0 Q0 ?_
      refine WL.p Q0 (Yl.index str9 Q0 Q0 Q0 (by first | assumption | exact List.getElem?_eq_getElem Q7)) ?_
      refine WL.run (d := 32) Q0 Q0 ?_
      refine WL.p Q0 (Yl.eqi Q0 Q0) ?_
      refine WL.p Q0 (Yl.pickF Q0 Q0) ?_
      refine WL.p Q0 (Yl.not Q0) ?_
      refine WL.next ?_
      refine WC.condS Q0 (fun h6 => ?_) (fun h6 => ?_)
      ·
       replace h6 := not_eq_true h6
       replace h6 := of_decide_eq_false h6
       refine WC.seq ?_
       refine Qa ?_
       refine WL.next ?_
       refine WC.ret ?_
       refine At.blockret ?_
       refine At.thenret ?_
       refine At.thenret ?_
       refine At.blockret ?_
       refine At.thenret ?_
       refine fin1' rfl Q0 ?_
       refine RetP.mk hs ?_
       first
        | (simp [isValue, hJ, valueByte, lower, digit]; done)
        | (simp [isValue, hJ, valueByte, lower, digit]; omega)
        | simp_all [isValue, hJ, valueByte, lower, digit]
      ·
       replace h6 := not_eq_false h6
       replace h6 := of_decide_eq_true h6
       refine WC.skip ?_
       refine At.blocknormal ?_
       refine At.then_ ?_
       refine WC.region ?_
       refine Qm ?_
       refine WL.p Q0 (Yl.add Q0 Q0 Q7) ?_
       refine Qa ?_
       refine WL.nil ?_
       refine At.roundC (k + 1) (hs.only Q2) ⟨by rfl, trivial⟩ ⟨by rfl, trivial⟩ ?_ ?_
       ·
        omega
       ·
        rw [hJ]; simp [valueByte, lower, digit]; omega
    ·
     replace h4 := of_decide_eq_false h4
     refine WL.skip (d := 25) Q0 Q0 Q0 Q0 ?_
     refine WL.skip (d := 25) Q0 Q0 Q0 Q0 ?_
     refine WL.skip (d := 25) Q0 Q0 Q0 Q0 ?_
     refine WL.skip (d := 25) Q0 Q0 Q0 Q0 ?_
     refine WL.run (d := 20) Q0 Q0 ?_
     refine WL.p Q0 (Yl.pickF Q0 Q0) ?_
     refine WL.p Q0 (Yl.pickF Q0 Q0) ?_
     refine Qm ?_
     refine WL.run (d := 32) Q0 Q0 ?_
     refine Qm ?_
     refine WL.run (d := 32) Q0 Q0 ?_
     refine Qm ?_
     refine WL.run (d := 32) Q0 Q0 ?_
     refine WL.p Q0 (Yl.index str9 Q0 Q0 Q0 (by first | assumption | exact List.getElem?_eq_getElem Q7)) ?_
     refine WL.run (d := 32) Q0 Q0 ?_
     refine WL.p Q0 (Yl.eqi Q0 Q0) ?_
     refine WL.p Q0 (Yl.pickF Q0 Q0) ?_
     refine WL.p Q0 (Yl.not Q0) ?_
     refine WL.next ?_
     refine WC.condS Q0 (fun h5 => ?_) (fun h5 => ?_)
     ·
      replace h5 := not_eq_true h5
      replace h5 := of_decide_eq_false h5
      refine WC.seq ?_
      refine Qa ?_
      refine WL.next ?_
      refine WC.ret ?_
      refine At.blockret ?_
      refine At.thenret ?_
      refine At.thenret ?_
      refine At.blockret ?_
      refine At.thenret ?_
      refine fin1' rfl Q0 ?_
      refine RetP.mk hs ?_
      first
       | (simp [isValue, hJ, valueByte, lower, digit]; done)
       | (simp [isValue, hJ, valueByte, lower, digit]; omega)
       | simp_all [isValue, hJ, valueByte, lower, digit]
     ·
      replace h5 := not_eq_false h5
      replace h5 := of_decide_eq_true h5
      refine WC.skip ?_
      refine At.blocknormal ?_
      refine At.then_ ?_
      refine WC.region ?_
      refine Qm ?_
      refine WL.p Q0 (Yl.add Q0 Q0 Q7) ?_
      refine Qa ?_
      refine WL.nil ?_
      refine At.roundC (k + 1) (hs.only Q2) ⟨by rfl, trivial⟩ ⟨by rfl, trivial⟩ ?_ ?_
      ·
       omega
      ·
       rw [hJ]; simp [valueByte, lower, digit]; omega
  ·
   replace h2 := of_decide_eq_false h2
   refine WL.skip (d := 14) Q0 Q0 Q0 Q0 ?_
   refine WL.skip (d := 14) Q0 Q0 Q0 Q0 ?_
   refine WL.skip (d := 14) Q0 Q0 Q0 Q0 ?_
   refine WL.skip (d := 14) Q0 Q0 Q0 Q0 ?_
   refine WL.p Q0 (Yl.pickF Q0 Q0) ?_
   refine Qm ?_
   refine WL.run (d := 20) Q0 Q0 ?_
   refine Qm ?_
   refine WL.run (d := 20) Q0 Q0 ?_
   refine Qm ?_
   refine WL.run (d := 20) Q0 Q0 ?_
   refine WL.p Q0 (Yl.index str9 Q0 Q0 Q0 (by first | assumption | exact List.getElem?_eq_getElem Q7)) ?_
   refine WL.run (d := 20) Q0 Q0 ?_
   refine WL.p Q0 (Yl.geq Q0 Q0) ?_
   refine WL.run (d := 20) Q0 Q0 ?_
   refine Qm ?_
   refine WL.split (d := 25) Q0 (fun h3 => ?_) (fun h3 => ?_)
   ·
    replace h3 := of_decide_eq_true h3
    refine WL.run (d := 25) Q0 Q0 ?_
    refine Qm ?_
    refine WL.run (d := 25) Q0 Q0 ?_
    refine Qm ?_
    refine WL.run (d := 25) Q0 Q0 ?_
    refine WL.p Q0 (Yl.index str9 Q0 Q0 Q0 (by first | assumption | exact List.getElem?_eq_getElem Q7)) ?_
    refine WL.run (d := 25) Q0 Q0 ?_
    refine WL.p Q0 (Yl.leq Q0 Q0) ?_
    refine WL.run (d := 20) Q0 Q0 ?_
    refine WL.p Q0 (Yl.pickT Q0 Q0) ?_
    refine WL.p Q0 (Yl.pickF Q0 Q0) ?_
    refine Qm ?_
    refine WL.split (d := 32) Q0 (fun h4 => ?_) (fun h4 => ?_)
    ·
     replace h4 := of_decide_eq_true h4
     refine WL.skip (d := 32) Q0 Q0 Q0 Q0 ?_
     refine WL.skip (d := 32) Q0 Q0 Q0 Q0 ?_
     refine WL.skip (d := 32) Q0 Q0 Q0 Q0 ?_
     refine WL.skip (d := 32) Q0 Q0 Q0 Q0 ?_
     refine WL.p Q0 (Yl.pickT Q0 Q0) ?_
     refine WL.p Q0 (Yl.not Q0) ?_
     refine WL.next ?_
     refine WC.condF Q0 ?_
     refine WC.skip ?_
     refine At.blocknormal ?_
     refine At.then_ ?_
     refine WC.region ?_
     refine Qm ?_
     refine WL.p Q0 (Yl.add Q0 Q0 Q7) ?_
     refine Qa ?_
     refine WL.nil ?_
     refine At.roundC (k + 1) (hs.only Q2) ⟨by rfl, trivial⟩ ⟨by rfl, trivial⟩ ?_ ?_
     ·
      omega
     ·
      rw [hJ]; simp [valueByte, lower, digit]; omega
    ·
     replace h4 := of_decide_eq_false h4
     refine WL.run (d := 32) Q0 Q0 ?_
     refine Qm ?_
     refine WL.run (d := 32) Q0 Q0 ?_
     refine Qm ?_
     refine WL.run (d := 32) Q0 Q0 ?_
     refine WL.p Q0 (Yl.index str9 Q0 Q0 Q0 (by first | assumption | exact List.getElem?_eq_getElem Q7)) ?_
     refine WL.run (d := 32) Q0 Q0 ?_
     refine WL.p Q0 (Yl.eqi Q0 Q0) ?_
     refine WL.p Q0 (Yl.pickF Q0 Q0) ?_
     refine WL.p Q0 (Yl.not Q0) ?_
     refine WL.next ?_
     refine WC.condS Q0 (fun h5 => ?_) (fun h5 => ?_)
     ·
      replace h5 := not_eq_true h5
      replace h5 := of_decide_eq_false h5
      refine WC.seq ?_
      refine Qa ?_
      refine WL.next ?_
      refine WC.ret ?_
      refine At.blockret ?_
      refine At.thenret ?_
      refine At.thenret ?_
      refine At.blockret ?_
      refine At.thenret ?_
      refine fin1' rfl Q0 ?_
      refine RetP.mk hs ?_
      first
       | (simp [isValue, hJ, valueByte, lower, digit]; done)
       | (simp [isValue, hJ, valueByte, lower, digit]; omega)
       | simp_all [isValue, hJ, valueByte, lower, digit]
     ·
      replace h5 := not_eq_false h5
      replace h5 := of_decide_eq_true h5
      refine WC.skip ?_
      refine At.blocknormal ?_
      refine At.then_ ?_
      refine WC.region ?_
      refine Qm ?_
      refine WL.p Q0 (Yl.add Q0 Q0 Q7) ?_
      refine Qa ?_
      refine WL.nil ?_
      refine At.roundC (k + 1) (hs.only Q2) ⟨by rfl, trivial⟩ ⟨by rfl, trivial⟩ ?_ ?_
      ·
       omega
      ·
       rw [hJ]; simp [valueByte, lower, digit]; omega
   ·
    replace h3 := of_decide_eq_false h3
    refine WL.skip (d := 25) Q0 Q0 Q0 Q0 ?_
    refine WL.skip (d := 25) Q0 Q0 Q0 Q0 ?_
    refine WL.skip (d := 25) Q0 Q0 Q0 Q0 ?_
    refine WL.skip (d := 25) Q0 Q0 Q0 Q0 ?_
    refine WL.run (d := 20) Q0 Q0 ?_
    refine WL.p Q0 (Yl.pickF Q0 Q0) ?_
    refine WL.p Q0 (Yl.pickF Q0 Q0) ?_
    refine Qm ?_
    refine WL.run (d := 32) Q0 Q0 ?_
    refine Qm ?_
    refine WL.run (d := 32) Q0 Q0 ?_
    refine Qm ?_
    refine WL.run (d := 32) Q0 Q0 ?_
    refine WL.p Q0 (Yl.index str9 Q0 Q0 Q0 (by first | assumption | exact List.getElem?_eq_getElem Q7)) ?_
    refine WL.run (d := 32) Q0 Q0 ?_
    refine WL.p Q0 (Yl.eqi Q0 Q0) ?_
    refine WL.p Q0 (Yl.pickF Q0 Q0) ?_
    refine WL.p Q0 (Yl.not Q0) ?_
    refine WL.next ?_
    refine WC.condS Q0 (fun h4 => ?_) (fun h4 => ?_)
    ·
     replace h4 := not_eq_true h4
     replace h4 := of_decide_eq_false h4
     refine WC.seq ?_
     refine Qa ?_
     refine WL.next ?_
     refine WC.ret ?_
     refine At.blockret ?_
     refine At.thenret ?_
     refine At.thenret ?_
     refine At.blockret ?_
     refine At.thenret ?_
     refine fin1' rfl Q0 ?_
     refine RetP.mk hs ?_
     first
      | (simp [isValue, hJ, valueByte, lower, digit]; done)
      | (simp [isValue, hJ, valueByte, lower, digit]; omega)
      | simp_all [isValue, hJ, valueByte, lower, digit]
    ·
     replace h4 := not_eq_false h4
     replace h4 := of_decide_eq_true h4
     refine WC.skip ?_
     refine At.blocknormal ?_
     refine At.then_ ?_
     refine WC.region ?_
     refine Qm ?_
     refine WL.p Q0 (Yl.add Q0 Q0 Q7) ?_
     refine Qa ?_
     refine WL.nil ?_
     refine At.roundC (k + 1) (hs.only Q2) ⟨by rfl, trivial⟩ ⟨by rfl, trivial⟩ ?_ ?_
     ·
      omega
     ·
      rw [hJ]; simp [valueByte, lower, digit]; omega
 ·
  replace h1 := of_decide_eq_false h1
  rw [drop_out (l := s) Q7] at hJ
  refine WC.exit ?_
  refine At.thenexit ?_
  refine At.thenexit ?_
  refine At.blockexit ?_
  refine At.then_ ?_
  refine WC.seq ?_
  refine Qm ?_
  refine WL.p Q0 (Yl.len_str str9 Q0) ?_
  refine WL.callp hs Q0 (Yc.func Q0 fn90) (c_impl_InRange _ _ _ _) ?_
  clear hs; intro w hs
  refine Qa ?_
  refine WL.next ?_
  refine WC.ret ?_
  refine fin1' rfl Q0 ?_
  refine RetP.mk hs ?_
  first
   | (simp [isValue, hJ, valueByte, lower, digit]; done)
   | (simp [isValue, hJ, valueByte, lower, digit]; omega)
   | simp_all [isValue, hJ, valueByte, lower, digit]

end Go.Sw
