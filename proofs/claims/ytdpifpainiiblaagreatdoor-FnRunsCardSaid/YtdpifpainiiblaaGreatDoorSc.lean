/- strings.NewReplacer and Replace (sync.Once, its lock, build, the bytes' replacer) at MarkupOf's texts, and both MarkupOf's, at this translation. No conditions but on the arguments. -/
import Derived.Test.YtdpifpainiiblaaGreatDoorRows
import Derived.Test.YtdpifpainiiblaaGreatDoorLibS
import Derived.WalkKit
import Derived.Defers
import Derived.Laws.LoneSync
import Derived.RegionCalls
import Derived.ChangeAlike
import Derived.Laws.NewBlocks
import Derived.Lib.SliceRun
set_option linter.all false
namespace Go.Sw
open Go Go.RowKit Go.Proofs

theorem mu_disable (w : World) : (callFunc 171 #[]).run Tryz.prog w = .ok (.value (.tuple #[])) w := run_call_mark0 Tryz.func171 (by kernel_rfl) (by kernel_rfl) (by kernel_rfl) .disable (by kernel_rfl) w
theorem mu_enable (w : World) : (callFunc 173 #[]).run Tryz.prog w = .ok (.value (.tuple #[])) w := run_call_mark0 Tryz.func173 (by kernel_rfl) (by kernel_rfl) (by kernel_rfl) .enable (by kernel_rfl) w
theorem mu_acquire (a : Addr) (w : World) : (callFunc 174 #[.pointer (some a)]).run Tryz.prog w = .ok (.value (.tuple #[])) w := run_call_marked Tryz.func174 (by kernel_rfl) (by kernel_rfl) (by kernel_rfl) .acquire (by kernel_rfl) a w
theorem mu_releaseMerge (a : Addr) (w : World) : (callFunc 176 #[.pointer (some a)]).run Tryz.prog w = .ok (.value (.tuple #[])) w := run_call_marked Tryz.func176 (by kernel_rfl) (by kernel_rfl) (by kernel_rfl) .releaseMerge (by kernel_rfl) a w

set_option maxRecDepth 100000 in
theorem mu_store (a : Addr) (x : Value) (u : FrameMode) (w : World) (hc : w.cell? a = some x) (hz : w.frozen? a = false) :
    CallsD Tryz.prog 152 #[.pointer (some a), .bool true] u w fun e u' w' => u' = u ∧ (e = .returned (.tuple #[]) ∧ w' = w.drew.setCell a (.int .u32 1)) := by
  have hc' : w.drew.cell? a = some x := by go_simp
  have hz' : w.drew.frozen? a = false := by go_simp
  have hst := run_call_store (P := Tryz.prog) Tryz.func165 (by kernel_rfl) (by kernel_rfl) (by kernel_rfl) (by kernel_rfl) (k := .u32) (y := 1) hc' hz'
  go_enter_d Tryz.func152, Tryz.ntmps152
  go_wp2
  go_region_calls
  all_goals (go_end0; exact ⟨rfl, rfl⟩)

set_option maxRecDepth 100000 in
theorem mu_unlock (a : Addr) (u : FrameMode) (w : World) (hc : w.cell? a = some (.int .i32 1)) (hz : w.frozen? a = false) :
    CallsD Tryz.prog 151 #[.pointer (some a)] u w fun e u' w' => u' = u ∧ (e = .returned (.tuple #[]) ∧ w' = w.setCell a (.int .i32 0)) := by
  have hd := mu_disable
  have he := mu_enable
  have hr := mu_releaseMerge
  have hadd := run_call_add (P := Tryz.prog) Tryz.func177 (by kernel_rfl) (by kernel_rfl) (by kernel_rfl) .i32 (by kernel_rfl) (y := -1) (s := 0) hc hz (by simp [go_sem]; rfl)
  have hcv := run_convert_to_unsafe (P := Tryz.prog) (src := 250) (dst := 174) Tryz.underlying250 Tryz.underlying174 (by kernel_rfl) hc
  go_enter_d Tryz.func151, Tryz.ntmps151
  go_wp2
  go_end0
  go_wp2
  go_end0
  exact ⟨rfl, rfl⟩

set_option maxRecDepth 100000 in
theorem mu_lock (a : Addr) (w : World) (hc : w.cell? a = some (.int .i32 0)) (hz : w.frozen? a = false) :
    Calls Tryz.prog 150 #[.pointer (some a)] w fun e w' => e = .returned (.tuple #[]) ∧ w' = w.setCell a (.int .i32 1) := by
  have hd := mu_disable
  have he := mu_enable
  have ha := mu_acquire
  have hcas := run_call_cas_hit (P := Tryz.prog) Tryz.func172 (by kernel_rfl) (by kernel_rfl) (by kernel_rfl) .i32 (by kernel_rfl) (y := 1) hc hz
  have hc' : (w.setCell a (.int .i32 1)).cell? a = some (.int .i32 1) := World.cell?_setCell_same w a _ hc
  have hcv := run_convert_to_unsafe (P := Tryz.prog) (src := 250) (dst := 174) Tryz.underlying250 Tryz.underlying174 (by kernel_rfl) hc'
  go_enter Tryz.func150, Tryz.ntmps150
  go_wp2
  first | go_end0 | (simp only [Exit.inBlock, Exit.then]; refine bodyPost_ret (results_none rfl _ _ _) rfl ?_) | refine bodyPost_ret (results_none rfl _ _ _) rfl ?_
  go_wp2
  go_end0
  exact ⟨rfl, rfl⟩

set_option maxRecDepth 100000 in
set_option maxHeartbeats 1600000 in
/-- doSlow, not yet done, the lock free: the closure is the bound method f of the pointer p. -/
theorem mu_slow (b : Nat) (p : Value) (w : World) (R : World → Prop)
    (h0 : w.cell? ⟨b, 0, none⟩ = some (.int .u32 0)) (h1 : w.cell? ⟨b, 1, none⟩ = some (.int .i32 0)) (f1 : w.frozen? ⟨b, 1, none⟩ = false)
    (hf : Calls Tryz.prog 107 #[p] (w.setCell ⟨b, 1, none⟩ (.int .i32 1)) fun e w' => e = .returned (.tuple #[]) ∧ R w')
    (hR : ∀ w', R w' → (∃ x, w'.cell? ⟨b, 0, none⟩ = some x) ∧ w'.cell? ⟨b, 1, none⟩ = some (.int .i32 1) ∧ w'.frozen? ⟨b, 0, none⟩ = false ∧ w'.frozen? ⟨b, 1, none⟩ = false) :
    Calls Tryz.prog 134 #[.pointer (some ⟨b, 0, none⟩), .func (.func 107) #[p] #[]] w fun e w' => e = .returned (.tuple #[]) ∧
      ∃ w2, R w2 ∧ w' = (w2.drew.setCell ⟨b, 0, none⟩ (.int .u32 1)).setCell ⟨b, 1, none⟩ (.int .i32 0) := by
  have hl := run_call_load (P := Tryz.prog) Tryz.func149 (by kernel_rfl) (by kernel_rfl) (by kernel_rfl) .u32 (by kernel_rfl) (w := w.setCell ⟨b, 1, none⟩ (.int .i32 1)) (a := ⟨b, 0, none⟩) (x := 0) ((World.cell?_setCell_other _ ⟨b, 1, none⟩ ⟨b, 0, none⟩ _ (by simp)).trans h0)
  have hnot : ∀ (x : Bool) (w : World), (Op.unary .not (.bool x)).run Tryz.prog w = .ok (.bool (!x)) w := fun _ _ => rfl
  go_enter_defers Tryz.func134, Tryz.ntmps134
  go_wp2_with (first | (go_at_call 150; refine (mu_lock ⟨b, 1, none⟩ _ (by go_simp) (by go_simp)).mono ?_; rintro e w' ⟨rfl, rfl⟩) | (go_at_call 133; go_in) | (go_at_call 107; refine hf.mono ?_; rintro e w2 ⟨rfl, hr⟩))
  obtain ⟨⟨x, g0⟩, g1, z0, z1⟩ := hR _ hr
  refine leaves_cons (f := 152) (args := #[.pointer (some ⟨b, 0, none⟩), .bool true]) (by simp) (by simp [go_sem]) ?_
  refine (mu_store ⟨b, 0, none⟩ x .returning _ g0 z0).mono ?_
  rintro e u' w'' ⟨rfl, rfl, rfl⟩
  refine leaves_cons (f := 151) (args := #[.pointer (some ⟨b, 1, none⟩)]) (by simp [settle]) (by simp [go_sem]) ?_
  refine (mu_unlock ⟨b, 1, none⟩ _ _ ?_ (by simp [z1])).mono ?_
  · refine (World.cell?_setCell_other _ ⟨b, 0, none⟩ ⟨b, 1, none⟩ _ (by simp)).trans ?_
    rw [World.cell?_drew]
    exact g1
  rintro e u' w'' ⟨rfl, rfl, rfl⟩
  simp [Leaves, settle, results, Tryz.results134]
  exact ⟨w2, hr, rfl⟩

set_option maxRecDepth 100000 in
set_option maxHeartbeats 1600000 in
theorem mu_do (b : Nat) (p : Value) (w : World) (R : World → Prop)
    (h0 : w.cell? ⟨b, 0, none⟩ = some (.int .u32 0)) (h1 : w.cell? ⟨b, 1, none⟩ = some (.int .i32 0)) (f1 : w.frozen? ⟨b, 1, none⟩ = false)
    (hf : Calls Tryz.prog 107 #[p] (w.setCell ⟨b, 1, none⟩ (.int .i32 1)) fun e w' => e = .returned (.tuple #[]) ∧ R w')
    (hR : ∀ w', R w' → (∃ x, w'.cell? ⟨b, 0, none⟩ = some x) ∧ w'.cell? ⟨b, 1, none⟩ = some (.int .i32 1) ∧ w'.frozen? ⟨b, 0, none⟩ = false ∧ w'.frozen? ⟨b, 1, none⟩ = false) :
    Calls Tryz.prog 106 #[.pointer (some ⟨b, 0, none⟩), .func (.func 107) #[p] #[]] w fun e w' => e = .returned (.tuple #[]) ∧
      ∃ w2, R w2 ∧ w' = (w2.drew.setCell ⟨b, 0, none⟩ (.int .u32 1)).setCell ⟨b, 1, none⟩ (.int .i32 0) := by
  have hl := run_call_load (P := Tryz.prog) Tryz.func149 (by kernel_rfl) (by kernel_rfl) (by kernel_rfl) .u32 (by kernel_rfl) h0
  have hnot : ∀ (x : Bool) (w : World), (Op.unary .not (.bool x)).run Tryz.prog w = .ok (.bool (!x)) w := fun _ _ => rfl
  go_enter Tryz.func106, Tryz.ntmps106
  go_wp2_with (first | (go_at_call 134; refine (mu_slow b p _ R h0 h1 f1 hf hR).mono ?_; rintro e w' ⟨rfl, hr⟩) | (go_at_call 133; go_in))
  go_end0
  exact ⟨rfl, hr⟩

theorem mfa67_0 : FA Tryz.prog 160 0 0 := FA.of (T := 156) (k := 2) (by kernel_rfl) (by kernel_rfl)
theorem mfa67_1 : FA Tryz.prog 160 1 3 := FA.of (T := 158) (k := 0) (by kernel_rfl) (by kernel_rfl)
theorem mfa67_2 : FA Tryz.prog 160 2 4 := FA.of (T := 48) (k := 0) (by kernel_rfl) (by kernel_rfl)
theorem msca51 : Sca Tryz.prog 48 := Sca.of (by kernel_rfl) (by kernel_rfl)
theorem msca65 : Sca Tryz.prog 158 := Sca.of (by kernel_rfl) (by kernel_rfl)
theorem msca9 : Sca Tryz.prog 9 := Sca.of (by kernel_rfl) (by kernel_rfl)
theorem msca5 : Sca Tryz.prog 5 := Sca.of (by kernel_rfl) (by kernel_rfl)
theorem mstr9 : Tryz.prog.underlying 9 = some .string := by kernel_rfl
theorem mslt51 : SlT Tryz.prog 48 9 1 := ⟨by kernel_rfl, by kernel_rfl⟩
theorem mslu51 : Tryz.prog.underlying 48 = some (.slice 9) := by kernel_rfl
theorem marr90 : Tryz.prog.underlying 217 = some (.array 256 5) := by kernel_rfl
theorem msz5 : (Tryz.prog.info? 5).map (·.size) = some 1 := by kernel_rfl
theorem mu8 : Tryz.prog.underlying 5 = some (.int .u8) := by kernel_rfl
theorem mi3 : (Tryz.prog.underlying 3).isSome = true := by kernel_rfl
theorem mzt90 : ZT Tryz.prog 217 (List.replicate 256 (U8 0)) := ZT.of (z := .agg (List.replicate 256 (U8 0)).toArray) (by kernel_rfl) rfl

theorem Over.all : ∀ (cs vs : List Value), cs.length = vs.length → Over cs vs vs
  | [], [], _ => .nil
  | c :: cs, v :: vs, h => .cons (Over.all cs vs (by simpa using h))
theorem SetAt.one : ∀ (cs : List Value) (k : Nat) (v : Value), k < cs.length → SetAt cs k [v] (cs.set k v)
  | c :: cs, 0, v, _ => .here (.cons .nil)
  | c :: cs, k + 1, v, h => .there (SetAt.one cs k v (by simpa using h))

/-- The identity's table as far as k. -/
def tabTo (k : Nat) : List Value := (List.range 256).map fun j => if j < k then U8 (UInt8.ofNat j) else U8 0
theorem tabTo_len (k : Nat) : (tabTo k).length = 256 := by simp [tabTo]
theorem tabTo_zero : tabTo 0 = List.replicate 256 (U8 0) := by simp [tabTo, List.map_const']
theorem tabTo_succ (k : Nat) (h : k < 256) : (tabTo k).set k (U8 (UInt8.ofNat k)) = tabTo (k + 1) := by
  apply List.ext_getElem
  · simp [tabTo]
  · intro j h1 h2
    rw [List.getElem_set]
    simp only [tabTo, List.getElem_map, List.getElem_range]
    by_cases hj : k = j
    · subst hj; simp
    · rw [if_neg hj]
      by_cases h3 : j < k
      · rw [if_pos h3, if_pos (by omega)]
      · rw [if_neg h3, if_neg (by omega)]

/-- What a byte becomes. -/
def mkB (c : UInt8) : UInt8 := if c = 91 then 60 else if c = 93 then 62 else c
def tabM : List Value := ((tabTo 256).set 93 (U8 62)).set 91 (U8 60)

theorem Yl.mkIface {P : Program} {n : Nat} {e : Env} {w : World} {ty T el : TypeId} {x : Operand} {v : Value} (hT : P.underlying T = some (.pointer el)) (hx : ev? e x = some v) : Yl P n e w (.makeInterface T x) ty (.iface T v) := fun o a ha h _ => by
  simp [execOp, h, ha.ev hx, Instr.makeInterface, run_underlying hT]
theorem mptr91 : Tryz.prog.underlying 218 = some (.pointer 217) := by kernel_rfl

set_option maxHeartbeats 4000000 in
set_option maxRecDepth 100000 in
theorem mo_build (b : Nat) (x0 x1 x2 x3 : Value) (a : Option Addr) (cp : Nat) (w : World) (hc : CellsAt w b 0 [x0, x1, x2, x3, .slice a 4 cp]) (hok : Sl.Ok w (⟨[[91], [60], [93], [62]], a, cp⟩ : Sl Str)) :
    Calls Tryz.prog 135 [bp b 0].toArray w (Ret w (fun v w' => ∃ ba, v = .iface 218 (bp ba 0) ∧ w.heap.size ≤ ba ∧ w'.heap[ba]? = some (.cells tabM.toArray 217 (0, 0)))) := by
  refine enterN 132 Tryz.func135 rfl rfl rfl ?_
  have hs := Sat.start w
  refine WC.seq ?_
  refine WL.p (by rfl) (Yl.assign (by rfl)) ?_
  refine WL.next ?_
  refine WC.seq ?_
  refine WL.p (by rfl) (Yl.move (by rfl)) ?_
  refine WL.p (by rfl) (Yl.nilCheck (by rfl)) ?_
  refine WL.p (by rfl) (Yl.fieldAddr mfa67_2 (by rfl)) ?_
  refine WL.p (by rfl) (Yl.loadC (j := 4) msca51 (by rfl) (hc.ext hs.below) (by rfl)) ?_
  refine WL.p (by rfl) (Yl.assign (by rfl)) ?_
  refine WL.next ?_
  refine WC.seq' ?_
  refine WC.seq ?_
  refine WL.p (by rfl) (Yl.move (by rfl)) ?_
  refine WL.p (by rfl) (Yl.len_sl mslu51 (by rfl)) ?_
  refine WL.p (by rfl) (Yl.eqi (by rfl) (by rfl)) ?_
  refine WL.p (by rfl) (Yl.move (by rfl)) ?_
  refine WL.skip (d := 22) (by rfl) (by rfl) (by rfl) (by rfl) ?_
  refine WL.skip (d := 22) (by rfl) (by rfl) (by rfl) (by rfl) ?_
  refine WL.skip (d := 22) (by rfl) (by rfl) (by rfl) (by rfl) ?_
  refine WL.skip (d := 22) (by rfl) (by rfl) (by rfl) (by rfl) ?_
  refine WL.skip (d := 22) (by rfl) (by rfl) (by rfl) (by rfl) ?_
  refine WL.p (by rfl) (Yl.pickF (by rfl) (by rfl)) ?_
  refine WL.next ?_
  refine WC.condF (by rfl) ?_
  refine WC.skipn ?_
  refine WC.seq ?_
  refine WL.p (by rfl) (Yl.assign (by rfl)) ?_
  refine WL.next ?_
  refine WC.seq' ?_
  refine WC.seq ?_
  refine WL.p (by rfl) (Yl.assign (by rfl)) ?_
  refine WL.next ?_
  refine WC.block ?_
  refine WC.loopN 3 ?_
  refine WR.succ ?_
  refine WC.seq' ?_
  refine WC.seq ?_
  refine WL.p (by rfl) (Yl.move (by rfl)) ?_
  refine WL.p (by rfl) (Yl.move (by rfl)) ?_
  refine WL.p (by rfl) (Yl.len_sl mslu51 (by rfl)) ?_
  refine WL.p (by rfl) (Yl.lss (by rfl) (by rfl)) ?_
  refine WL.next ?_
  refine WC.condT (by rfl) ?_
  refine WC.skipn ?_
  refine WC.seq' ?_
  refine WC.block ?_
  refine WC.seq' ?_
  refine WC.seq ?_
  refine WL.p (by rfl) (Yl.move (by rfl)) ?_
  refine WL.p (by rfl) (Yl.move (by rfl)) ?_
  refine WL.p (by rfl) (Yl.indexAddr (s := (⟨[[91], [60], [93], [62]], a, cp⟩ : Sl Str)) (k := 0) mslt51 (by rfl) (by rfl) (hok.old hs) (by rfl) (by rfl)) ?_
  refine WL.p (by rfl) (Yl.loadC0 msca9 (by rfl) (Sl.Ok.at_ (hok.old hs) (show ([[91], [60], [93], [62]] : List Str)[0]? = _ from rfl)).2 (by rfl)) ?_
  refine WL.p (by rfl) (Yl.len_str mstr9 (by rfl)) ?_
  refine WL.p (by rfl) (Yl.nei (by rfl) (by rfl)) ?_
  refine WL.next ?_
  refine WC.condF (by rfl) ?_
  refine WC.skipn ?_
  refine WC.seq ?_
  refine WL.p (by rfl) (Yl.move (by rfl)) ?_
  refine WL.p (by rfl) (Yl.move (by rfl)) ?_
  refine WL.p (by rfl) (Yl.add (by rfl) (by rfl) (by decide)) ?_
  refine WL.p (by rfl) (Yl.indexAddr (s := (⟨[[91], [60], [93], [62]], a, cp⟩ : Sl Str)) (k := 1) mslt51 (by rfl) (by rfl) (hok.old hs) (by rfl) (by rfl)) ?_
  refine WL.p (by rfl) (Yl.loadC0 msca9 (by rfl) (Sl.Ok.at_ (hok.old hs) (show ([[91], [60], [93], [62]] : List Str)[1]? = _ from rfl)).2 (by rfl)) ?_
  refine WL.p (by rfl) (Yl.len_str mstr9 (by rfl)) ?_
  refine WL.p (by rfl) (Yl.nei (by rfl) (by rfl)) ?_
  refine WL.next ?_
  refine WC.condF (by rfl) ?_
  refine WC.skip ?_
  refine At.blocknormal ?_
  refine At.then_ ?_
  refine WC.region ?_
  refine WL.p (by rfl) (Yl.move (by rfl)) ?_
  refine WL.p (by rfl) (Yl.add (by rfl) (by rfl) (by decide)) ?_
  refine WL.p (by rfl) (Yl.assign (by rfl)) ?_
  refine WL.nil ?_
  refine At.roundN ?_
  refine WR.succ ?_
  refine WC.seq' ?_
  refine WC.seq ?_
  refine WL.p (by rfl) (Yl.move (by rfl)) ?_
  refine WL.p (by rfl) (Yl.move (by rfl)) ?_
  refine WL.p (by rfl) (Yl.len_sl mslu51 (by rfl)) ?_
  refine WL.p (by rfl) (Yl.lss (by rfl) (by rfl)) ?_
  refine WL.next ?_
  refine WC.condT (by rfl) ?_
  refine WC.skipn ?_
  refine WC.seq' ?_
  refine WC.block ?_
  refine WC.seq' ?_
  refine WC.seq ?_
  refine WL.p (by rfl) (Yl.move (by rfl)) ?_
  refine WL.p (by rfl) (Yl.move (by rfl)) ?_
  refine WL.p (by rfl) (Yl.indexAddr (s := (⟨[[91], [60], [93], [62]], a, cp⟩ : Sl Str)) (k := 2) mslt51 (by rfl) (by rfl) (hok.old hs) (by rfl) (by rfl)) ?_
  refine WL.p (by rfl) (Yl.loadC0 msca9 (by rfl) (Sl.Ok.at_ (hok.old hs) (show ([[91], [60], [93], [62]] : List Str)[2]? = _ from rfl)).2 (by rfl)) ?_
  refine WL.p (by rfl) (Yl.len_str mstr9 (by rfl)) ?_
  refine WL.p (by rfl) (Yl.nei (by rfl) (by rfl)) ?_
  refine WL.next ?_
  refine WC.condF (by rfl) ?_
  refine WC.skipn ?_
  refine WC.seq ?_
  refine WL.p (by rfl) (Yl.move (by rfl)) ?_
  refine WL.p (by rfl) (Yl.move (by rfl)) ?_
  refine WL.p (by rfl) (Yl.add (by rfl) (by rfl) (by decide)) ?_
  refine WL.p (by rfl) (Yl.indexAddr (s := (⟨[[91], [60], [93], [62]], a, cp⟩ : Sl Str)) (k := 3) mslt51 (by rfl) (by rfl) (hok.old hs) (by rfl) (by rfl)) ?_
  refine WL.p (by rfl) (Yl.loadC0 msca9 (by rfl) (Sl.Ok.at_ (hok.old hs) (show ([[91], [60], [93], [62]] : List Str)[3]? = _ from rfl)).2 (by rfl)) ?_
  refine WL.p (by rfl) (Yl.len_str mstr9 (by rfl)) ?_
  refine WL.p (by rfl) (Yl.nei (by rfl) (by rfl)) ?_
  refine WL.next ?_
  refine WC.condF (by rfl) ?_
  refine WC.skip ?_
  refine At.blocknormal ?_
  refine At.then_ ?_
  refine WC.region ?_
  refine WL.p (by rfl) (Yl.move (by rfl)) ?_
  refine WL.p (by rfl) (Yl.add (by rfl) (by rfl) (by decide)) ?_
  refine WL.p (by rfl) (Yl.assign (by rfl)) ?_
  refine WL.nil ?_
  refine At.roundN ?_
  refine WR.succ ?_
  refine WC.seq' ?_
  refine WC.seq ?_
  refine WL.p (by rfl) (Yl.move (by rfl)) ?_
  refine WL.p (by rfl) (Yl.move (by rfl)) ?_
  refine WL.p (by rfl) (Yl.len_sl mslu51 (by rfl)) ?_
  refine WL.p (by rfl) (Yl.lss (by rfl) (by rfl)) ?_
  refine WL.next ?_
  refine WC.condF (by rfl) ?_
  refine WC.exit ?_
  refine At.thenexit ?_
  refine At.thenexit ?_
  refine At.blockexit ?_
  refine At.then_ ?_
  refine WC.seq' ?_
  refine WC.seq ?_
  refine WL.p (by rfl) (Yl.move (by rfl)) ?_
  refine WL.next ?_
  refine WC.condT (by rfl) ?_
  refine WC.seq ?_
  refine WL.p (by rfl) (Yl.buildArr marr90 msz5 mzt90) ?_
  refine WL.r (by rfl) (Yr.alloc hs mzt90) ?_
  clear hs; rintro _ w1 ⟨ba, rfl, hb, hs⟩
  have hba : w.heap.size ≤ ba := by have := (hs.all _ List.mem_cons_self).2 ba rfl; rcases this.1 with h | h; exact h; exact h.elim
  refine WL.s (Yr.storeB hs (by rfl) (by rfl) (by rfl) Repl.here (.here (Over.all _ _ rfl)) (by rfl) (by kernel_rfl)) ?_
  clear hs; intro _ w1 hs
  rw [← tabTo_zero] at hs
  refine WL.next ?_
  refine WC.seq' ?_
  refine WC.seq ?_
  refine WL.p (by rfl) (Yl.move (by rfl)) ?_
  refine WL.next ?_
  refine WC.block ?_
  refine WC.loopC (fun k : Nat => 256 - k) (fun k => [(61, I (k : Int))]) (fun k => [box ba 217 (tabTo k)]) (fun k => k ≤ 256) [(6, bp ba 0), (3, .slice a 4 cp)] 0 hs (by repeat (first | exact trivial | refine ⟨by rfl, ?_⟩)) (by repeat (first | exact trivial | refine ⟨by rfl, ?_⟩)) (Nat.zero_le _) (fun k w1 hk hs => ?_)
  refine WC.seq ?_
  refine WL.p (by rfl) (Yl.lss (by rfl) (by rfl)) ?_
  refine WL.next ?_
  refine WC.seq' ?_
  refine WC.cond (by rfl) (fun h1 => ?_) (fun h1 => ?_)
  ·
    have h1 : k < 256 := by have := of_decide_eq_true h1; omega
    refine WC.skipn ?_
    refine WC.seq' ?_
    refine WC.block ?_
    refine WC.seq ?_
    refine WL.p (by rfl) (Yl.move (by rfl)) ?_
    refine WL.p (by rfl) (Yl.assign (by rfl)) ?_
    refine WL.next ?_
    refine WC.region ?_
    refine WL.p (by rfl) (Yl.move (by rfl)) ?_
    refine WL.p (by rfl) (Yl.move (by rfl)) ?_
    refine WL.p (by rfl) (Yl.intByte (c := UInt8.ofNat k) mi3 mu8 (by rfl) (by rw [show (UInt8.ofNat k).toNat = k % 256 from rfl, Nat.mod_eq_of_lt h1])) ?_
    refine WL.p (by rfl) (Yl.indexArr (i := k) marr90 msz5 (by rfl) (by rfl) rfl h1) ?_
    refine WL.s (Yr.storeB hs (by rfl) (by rfl) (by rfl) Repl.here (by rw [Nat.mul_one]; exact SetAt.one _ _ _ (by rw [tabTo_len]; exact h1)) (by rfl) (by kernel_rfl)) ?_
    clear hs; intro _ w1 hs
    rw [tabTo_succ k h1] at hs
    refine WL.nil ?_
    refine At.blocknormal ?_
    refine At.then_ ?_
    refine WC.region ?_
    refine WL.p (by rfl) (Yl.add (by rfl) (by rfl) (by omega)) ?_
    refine WL.p (by rfl) (Yl.move (by rfl)) ?_
    refine WL.nil ?_
    exact At.roundC (k + 1) hs (by repeat (first | exact trivial | refine ⟨by rfl, ?_⟩)) (by repeat (first | exact trivial | refine ⟨by rfl, ?_⟩)) (by omega) (by omega)
  ·
    have h1 : k = 256 := by have := of_decide_eq_false h1; omega
    subst h1
    refine WC.exit ?_
    refine At.thenexit ?_
    refine At.thenexit ?_
    refine At.blockexit ?_
    refine At.then_ ?_
    refine WC.seq' ?_
    refine WC.seq ?_
    refine WL.p (by rfl) (Yl.move (by rfl)) ?_
    refine WL.p (by rfl) (Yl.len_sl mslu51 (by rfl)) ?_
    refine WL.p (by rfl) (Yl.sub_ (by rfl) (by rfl) (by decide)) ?_
    refine WL.p (by rfl) (Yl.assign (by rfl)) ?_
    refine WL.next ?_
    refine WC.block ?_
    refine WC.loopN 3 ?_
    refine WR.succ ?_
    refine WC.seq' ?_
    refine WC.seq ?_
    refine WL.p (by rfl) (Yl.move (by rfl)) ?_
    refine WL.p (by rfl) (Yl.geq (by rfl) (by rfl)) ?_
    refine WL.next ?_
    refine WC.condT (by rfl) ?_
    refine WC.skipn ?_
    refine WC.seq' ?_
    refine WC.block ?_
    refine WC.seq ?_
    refine WL.p (by rfl) (Yl.move (by rfl)) ?_
    refine WL.p (by rfl) (Yl.move (by rfl)) ?_
    refine WL.p (by rfl) (Yl.indexAddr (s := (⟨[[91], [60], [93], [62]], a, cp⟩ : Sl Str)) (k := 2) mslt51 (by rfl) (by rfl) (hok.old hs) (by rfl) (by rfl)) ?_
    refine WL.p (by rfl) (Yl.loadC0 msca9 (by rfl) (Sl.Ok.at_ (hok.old hs) (show ([[91], [60], [93], [62]] : List Str)[2]? = _ from rfl)).2 (by rfl)) ?_
    refine WL.p (by rfl) (Yl.index (k := 0) mstr9 (by rfl) (by rfl) (by rfl) (by rfl)) ?_
    refine WL.p (by rfl) (Yl.assign (by rfl)) ?_
    refine WL.next ?_
    refine WC.seq ?_
    refine WL.p (by rfl) (Yl.move (by rfl)) ?_
    refine WL.p (by rfl) (Yl.move (by rfl)) ?_
    refine WL.p (by rfl) (Yl.add (by rfl) (by rfl) (by decide)) ?_
    refine WL.p (by rfl) (Yl.indexAddr (s := (⟨[[91], [60], [93], [62]], a, cp⟩ : Sl Str)) (k := 3) mslt51 (by rfl) (by rfl) (hok.old hs) (by rfl) (by rfl)) ?_
    refine WL.p (by rfl) (Yl.loadC0 msca9 (by rfl) (Sl.Ok.at_ (hok.old hs) (show ([[91], [60], [93], [62]] : List Str)[3]? = _ from rfl)).2 (by rfl)) ?_
    refine WL.p (by rfl) (Yl.index (k := 0) mstr9 (by rfl) (by rfl) (by rfl) (by rfl)) ?_
    refine WL.p (by rfl) (Yl.assign (by rfl)) ?_
    refine WL.next ?_
    refine WC.region ?_
    refine WL.p (by rfl) (Yl.move (by rfl)) ?_
    refine WL.p (by rfl) (Yl.move (by rfl)) ?_
    refine WL.p (by rfl) (Yl.indexArr (i := 93) marr90 msz5 (by rfl) (by rfl) (by rfl) (by decide)) ?_
    refine WL.s (Yr.storeB hs (by rfl) (by rfl) (by rfl) Repl.here (SetAt.one _ 93 _ (by simp [tabTo_len])) (by rfl) (by kernel_rfl)) ?_
    clear hs; intro _ w1 hs
    refine WL.nil ?_
    refine At.blocknormal ?_
    refine At.then_ ?_
    refine WC.region ?_
    refine WL.p (by rfl) (Yl.move (by rfl)) ?_
    refine WL.p (by rfl) (Yl.sub_ (by rfl) (by rfl) (by decide)) ?_
    refine WL.p (by rfl) (Yl.assign (by rfl)) ?_
    refine WL.nil ?_
    refine At.roundN ?_
    refine WR.succ ?_
    refine WC.seq' ?_
    refine WC.seq ?_
    refine WL.p (by rfl) (Yl.move (by rfl)) ?_
    refine WL.p (by rfl) (Yl.geq (by rfl) (by rfl)) ?_
    refine WL.next ?_
    refine WC.condT (by rfl) ?_
    refine WC.skipn ?_
    refine WC.seq' ?_
    refine WC.block ?_
    refine WC.seq ?_
    refine WL.p (by rfl) (Yl.move (by rfl)) ?_
    refine WL.p (by rfl) (Yl.move (by rfl)) ?_
    refine WL.p (by rfl) (Yl.indexAddr (s := (⟨[[91], [60], [93], [62]], a, cp⟩ : Sl Str)) (k := 0) mslt51 (by rfl) (by rfl) (hok.old hs) (by rfl) (by rfl)) ?_
    refine WL.p (by rfl) (Yl.loadC0 msca9 (by rfl) (Sl.Ok.at_ (hok.old hs) (show ([[91], [60], [93], [62]] : List Str)[0]? = _ from rfl)).2 (by rfl)) ?_
    refine WL.p (by rfl) (Yl.index (k := 0) mstr9 (by rfl) (by rfl) (by rfl) (by rfl)) ?_
    refine WL.p (by rfl) (Yl.assign (by rfl)) ?_
    refine WL.next ?_
    refine WC.seq ?_
    refine WL.p (by rfl) (Yl.move (by rfl)) ?_
    refine WL.p (by rfl) (Yl.move (by rfl)) ?_
    refine WL.p (by rfl) (Yl.add (by rfl) (by rfl) (by decide)) ?_
    refine WL.p (by rfl) (Yl.indexAddr (s := (⟨[[91], [60], [93], [62]], a, cp⟩ : Sl Str)) (k := 1) mslt51 (by rfl) (by rfl) (hok.old hs) (by rfl) (by rfl)) ?_
    refine WL.p (by rfl) (Yl.loadC0 msca9 (by rfl) (Sl.Ok.at_ (hok.old hs) (show ([[91], [60], [93], [62]] : List Str)[1]? = _ from rfl)).2 (by rfl)) ?_
    refine WL.p (by rfl) (Yl.index (k := 0) mstr9 (by rfl) (by rfl) (by rfl) (by rfl)) ?_
    refine WL.p (by rfl) (Yl.assign (by rfl)) ?_
    refine WL.next ?_
    refine WC.region ?_
    refine WL.p (by rfl) (Yl.move (by rfl)) ?_
    refine WL.p (by rfl) (Yl.move (by rfl)) ?_
    refine WL.p (by rfl) (Yl.indexArr (i := 91) marr90 msz5 (by rfl) (by rfl) (by rfl) (by decide)) ?_
    refine WL.s (Yr.storeB hs (by rfl) (by rfl) (by rfl) Repl.here (SetAt.one _ 91 _ (by simp [tabTo_len])) (by rfl) (by kernel_rfl)) ?_
    clear hs; intro _ w1 hs
    refine WL.nil ?_
    refine At.blocknormal ?_
    refine At.then_ ?_
    refine WC.region ?_
    refine WL.p (by rfl) (Yl.move (by rfl)) ?_
    refine WL.p (by rfl) (Yl.sub_ (by rfl) (by rfl) (by decide)) ?_
    refine WL.p (by rfl) (Yl.assign (by rfl)) ?_
    refine WL.nil ?_
    refine At.roundN ?_
    refine WR.succ ?_
    refine WC.seq' ?_
    refine WC.seq ?_
    refine WL.p (by rfl) (Yl.move (by rfl)) ?_
    refine WL.p (by rfl) (Yl.geq (by rfl) (by rfl)) ?_
    refine WL.next ?_
    refine WC.condF (by rfl) ?_
    refine WC.exit ?_
    refine At.thenexit ?_
    refine At.thenexit ?_
    refine At.blockexit ?_
    refine At.then_ ?_
    refine WC.seq ?_
    refine WL.p (by rfl) (Yl.mkIface mptr91 (by rfl)) ?_
    refine WL.p (by rfl) (Yl.assign (by rfl)) ?_
    refine WL.next ?_
    refine WC.ret ?_
    refine At.thenret ?_
    refine fin1' rfl (by rfl) ?_
    exact ⟨_, rfl, hs.below, ba, rfl, hba, (hs.all _ List.mem_cons_self).1⟩

/-- An own row of bytes; its length never turns. -/
def bb (b : Nat) (l : Str) : Chunk := ⟨fun k => k = b, fun w => ∃ cur el fz, w.heap[b]? = some (.cells cur el fz) ∧ cur.toList.take l.length = l.map (fun c => U8 c) ∧ l.length ≤ cur.size ∧ l.length ≤ fz.1, fun w w' h hp => by
  obtain ⟨cur, el, fz, h1, h2⟩ := hp; exact ⟨cur, el, fz, by rw [h b rfl]; exact h1, h2⟩⟩

section
variable {P : Program} {n : Nat} {e : Env} {w w0 : World} {C : List Chunk} {ty : TypeId} {M : Nat → Prop}

theorem Yr.strBuf {src dst el : TypeId} {x : Operand} {s : Str} (hs : Sat M w0 w C) (h1 : P.underlying src = some .string) (h2 : P.underlying dst = some (.slice el)) (h3 : P.underlying el = some (.int .u8)) (hx : ev? e x = some (S s)) :
    Yr P n e w (.convert src dst x) ty (fun v' w' => ∃ b c, v' = .slice (some ⟨b, 0, none⟩) s.length c ∧ Below w.heap.size w w' ∧ Sat M w0 w' (bb b s :: C)) := fun or a ha ho _ => by
  have hr := run_bytes_of_string (P := P) w src dst el ⟨s.toArray⟩ h1 h2 h3
  have hsz : (⟨s.toArray⟩ : ByteArray).size = s.length := by simp [ByteArray.size]
  rw [hsz] at hr
  generalize hcap : grownCap w s.length 0 el = cap at *
  have hbel : Below w.heap.size w (w.drew.alloc (.cells (bytesRow ⟨s.toArray⟩ cap) el ((bytesRow ⟨s.toArray⟩ cap).size, (bytesRow ⟨s.toArray⟩ cap).size + 1))) := ((Below.refl _ _).drew).alloc (Nat.le_refl _) _
  have hle : s.length ≤ (bytesRow ⟨s.toArray⟩ cap).size := by simp [bytesRow]
  refine ⟨.slice (some ⟨w.heap.size, 0, none⟩) s.length cap, _, .inl ?_, w.heap.size, cap, rfl, hbel, hs.add hbel ⟨_, _, _, heap_alloc_new w.drew _, ?_, hle, hle⟩ ?_⟩
  · simp only [execOp, ho, ha.ev hx, Sem.run_bind]
    rw [show (S s : Value) = .string ⟨s.toArray⟩ from rfl, hr]; rfl
  · simp [bytesRow]
  · intro b hb
    obtain rfl : b = w.heap.size := by simpa [bb] using hb
    exact ⟨Nat.le_refl _, by simp⟩

theorem bb_cells {w0 w : World} {C : List Chunk} {b : Nat} {l : Str} (hs : Sat M w0 w C) (hm : bb b l ∈ C) : CellsAt w b 0 (l.map (fun c => U8 c)) := fun j v hv => by
  obtain ⟨cur, el, fz, h1, h2, h3, h4⟩ := (hs.all _ hm).1
  rw [Nat.zero_add, cell_of_row w b j cur el fz h1]
  rw [← h2, List.getElem?_take] at hv
  split at hv
  · simpa using hv
  · cases hv

theorem Yl.loadBB {T : TypeId} {x : Operand} {b i : Nat} {l : Str} {c : UInt8} (h : Sca P T) (hx : ev? e x = some (bp b i)) (hs : Sat M w0 w C) (hm : bb b l ∈ C) (hc : l[i]? = some c) : Yl P n e w (.load T x) ty (U8 c) :=
  Yl.load h hx (by have := bb_cells hs hm i (U8 c) (by simp [hc]); rwa [Nat.zero_add] at this)

theorem Yr.storeBB {T : TypeId} {x y : Operand} {b i : Nat} {l : Str} {c : UInt8} (hs : Sat M w0 w (bb b l :: C)) (hx : ev? e x = some (bp b i)) (hy : ev? e y = some (U8 c)) (hi : i < l.length) (hsz : (P.info? T).map (·.size) = some 1) :
    Yr P n e w (.store T x y) ty (fun _ w' => Sat M w0 w' (bb b (l.set i c) :: C)) := fun or a ha ho _ => by
  obtain ⟨cur, el, fz, h1, h2, h3, h4⟩ := (hs.all _ List.mem_cons_self).1
  have hi' : i < cur.size := by omega
  have hadd : (⟨b, i, none⟩ : Addr).add 0 = ⟨b, i, none⟩ := by unfold Addr.add; split <;> simp_all
  have hcell : w.cell? ⟨b, i, none⟩ = some cur[i] := by simp [World.cell?, h1, hi']
  have hfro : w.frozen? ⟨b, i, none⟩ = false := by
    obtain ⟨lo, hi2⟩ := fz
    simp only [World.frozen?, h1, Bool.and_eq_false_iff, decide_eq_false_iff_not]
    left
    simp only at h4
    omega
  have hst : (storeCells ⟨b, i, none⟩ [U8 c] 0).run P w = .ok () (w.setRow b (cur.setIfInBounds i (U8 c))) := by
    have : (store ((⟨b, i, none⟩ : Addr).add 0) (U8 c)).run P w = .ok () (w.setRow b (cur.setIfInBounds i (U8 c))) := by
      rw [hadd, run_store P w _ _ _ rfl, hcell]
      simp [hfro, setCell_eq_setRow w b i cur el fz _ h1]
    simp only [storeCells, Sem.run_bind, this, Result.andThen_ok]
    rfl
  refine ⟨undef, w.setRow b (cur.setIfInBounds i (U8 c)), .inr ⟨?_, rfl⟩, ?_⟩
  · cases hi3 : P.info? T with
    | none => simp [hi3] at hsz
    | some inf =>
      simp only [hi3, Option.map_some, Option.some.injEq] at hsz
      have : (storeVar T ⟨b, i, none⟩ (U8 c)).run P w = .ok () (w.setRow b (cur.setIfInBounds i (U8 c))) := by
        have hne : ¬ ((U8 c : Value).cells.size ≠ inf.size) := by rw [hsz]; simp [U8, Value.cells]
        simp only [storeVar, sizeOf, typeInfo, Sem.run_bind, run_program, Result.andThen_ok, hi3, Sem.run_pure]
        rw [if_neg hne]
        exact hst
      simp only [execOp, ho, ha.ev hx, ha.ev hy, Instr.storeAt, Instr.sureAddr, Sem.run_bind, Sem.run_pure, Result.andThen_ok, this]
  · refine hs.touch Repl.here touch_setRow ⟨_, el, fz, setRow_heap w b cur _ el fz h1, ?_, by simpa using h3, by simpa using h4⟩ (fun k hk => .inl hk)
    rw [List.length_set, Array.toList_setIfInBounds, List.take_set, h2, List.map_set]

theorem Yl.bufStr {src dst el : TypeId} {x : Operand} {b m c : Nat} {l : Str} (h1 : P.underlying src = some (.slice el)) (h2 : P.underlying el = some (.int .u8)) (h3 : P.underlying dst = some .string) (hx : ev? e x = some (.slice (some ⟨b, 0, none⟩) m c)) (hs : Sat M w0 w C) (hm : bb b l ∈ C) (hl : l.length = m) :
    Yl P n e w (.convert src dst x) ty (S l) := Yl.bytesStr h1 h2 h3 hx (bb_cells hs hm) rfl hl

theorem Yl.eqnil {T el tyy : TypeId} {x : Operand} {a : Option Addr} {k c : Nat} (hT : P.underlying T = some (.slice el)) (hx : ev? e x = some (.slice a k c)) : Yl P n e w (.binOp .eql T x (.const (.slice none 0 0)) tyy) ty (.bool a.isNone) := Yl.bin hx rfl (by
  simpa [eqGuard] using Lib.run_eql_slice_nil w _ _ a k c 0 0 hT)
end

theorem mslu35 : Tryz.prog.underlying 22 = some (.slice 5) := by kernel_rfl
theorem mslt35 : SlT Tryz.prog 22 5 1 := ⟨by kernel_rfl, by kernel_rfl⟩

/-- The text as far as k, marked up. -/
def mkTo (s : Str) (k : Nat) : Str := (s.take k).map mkB ++ s.drop k
theorem mkTo_len (s : Str) (k : Nat) (h : k ≤ s.length) : (mkTo s k).length = s.length := by simp [mkTo]; omega
theorem mkTo_get {s : Str} {k : Nat} {c : UInt8} (h : s[k]? = some c) : (mkTo s k)[k]? = some c := by
  have hk := (List.getElem?_eq_some_iff.1 h).1
  simp only [mkTo]
  rw [List.getElem?_append_right (by simp; omega)]
  simp only [List.length_map, List.length_take, Nat.min_eq_left (Nat.le_of_lt hk), Nat.sub_self, List.getElem?_drop, Nat.add_zero, h]
theorem mkTo_set {s : Str} {k : Nat} {c : UInt8} (h : s[k]? = some c) : (mkTo s k).set k (mkB c) = mkTo s (k + 1) := by
  obtain ⟨hk, rfl⟩ := List.getElem?_eq_some_iff.1 h
  simp only [mkTo]
  rw [List.set_append_right _ _ (by simp; omega)]
  simp only [List.length_map, List.length_take, Nat.min_eq_left (Nat.le_of_lt hk), Nat.sub_self]
  rw [List.drop_eq_getElem_cons hk, List.set_cons_zero, List.take_succ_eq_append_getElem hk, List.map_append, List.append_assoc]
  rfl
theorem mkTo_same {s : Str} {k : Nat} {c : UInt8} (h : s[k]? = some c) (hc : mkB c = c) : mkTo s k = mkTo s (k + 1) := by
  obtain ⟨hk, e⟩ := List.getElem?_eq_some_iff.1 (mkTo_get h)
  rw [← mkTo_set h, hc]
  have := List.set_getElem_self hk
  rw [e] at this; exact this.symm
theorem mkTo_all (s : Str) : mkTo s s.length = s.map mkB := by simp [mkTo]
theorem mkTo_zero (s : Str) : mkTo s 0 = s := by simp [mkTo]

theorem tabM_get (c : UInt8) : tabM[c.toNat]? = some (U8 (mkB c)) := by
  have hlt : c.toNat < 256 := c.toNat_lt
  have h256 : (tabTo 256)[c.toNat]? = some (U8 c) := by simp [tabTo, hlt]
  have e1 : c = 91 ↔ c.toNat = 91 := UInt8.toNat_inj.symm
  have e2 : c = 93 ↔ c.toNat = 93 := UInt8.toNat_inj.symm
  have hl : ((tabTo 256).set 93 (U8 62)).length = 256 := by simp [tabTo_len]
  unfold tabM mkB
  rw [List.getElem?_set, List.getElem?_set, hl, tabTo_len, h256]
  by_cases h1 : c.toNat = 91
  · rw [if_pos h1.symm, if_pos (by omega), if_pos (e1.2 h1)]
  · rw [if_neg (fun h => h1 h.symm), if_neg (fun h => h1 (e1.1 h))]
    by_cases h2 : c.toNat = 93
    · rw [if_pos h2.symm, if_pos (by omega), if_pos (e2.2 h2)]
    · rw [if_neg (fun h => h2 h.symm), if_neg (fun h => h2 (e2.1 h))]

set_option maxHeartbeats 4000000 in
theorem mo_spec (s : Str) (w : World) (hb0 : s.length ≤ 1048576) : Calls Tryz.prog 56 [S s].toArray w (RetP w (S (s.map mkB))) := by
  refine enterN 29 Tryz.func56 rfl rfl rfl ?_
  have hs := Sat.start w
  refine WC.seq ?_
  refine WL.p (by rfl) (Yl.assign (by rfl)) ?_
  refine WL.next ?_
  refine WC.seq ?_
  refine WL.p (by rfl) (Yl.move (by rfl)) ?_
  refine WL.r (by rfl) (Yr.strBuf hs mstr9 mslu35 mu8 (by rfl)) ?_
  clear hs; rintro _ w1 ⟨b, cp, rfl, hb, hs⟩
  refine WL.p (by rfl) (Yl.assign (by rfl)) ?_
  refine WL.next ?_
  rw [← mkTo_zero s] at hs
  refine WC.seq' ?_
  refine WC.seq ?_
  refine WL.p (by rfl) (Yl.assign (by rfl)) ?_
  refine WL.next ?_
  refine WC.block ?_
  refine WC.loopC (fun k : Nat => s.length - k) (fun k => [(4, I (k : Int))]) (fun k => [bb b (mkTo s k)]) (fun k => k ≤ s.length) [(3, .slice (some ⟨b, 0, none⟩) s.length cp)] 0 hs (by repeat (first | exact trivial | refine ⟨by rfl, ?_⟩)) (by repeat (first | exact trivial | refine ⟨by rfl, ?_⟩)) (Nat.zero_le _) (fun k w1 hk hs => ?_)
  refine WC.seq' ?_
  refine WC.seq ?_
  refine WL.p (by rfl) (Yl.move (by rfl)) ?_
  refine WL.p (by rfl) (Yl.move (by rfl)) ?_
  refine WL.p (by rfl) (Yl.len_sl mslu35 (by rfl)) ?_
  refine WL.p (by rfl) (Yl.lss (by rfl) (by rfl)) ?_
  refine WL.next ?_
  refine WC.cond (by rfl) (fun h1 => ?_) (fun h1 => ?_)
  ·
    have h1 : k < s.length := by have := of_decide_eq_true h1; omega
    obtain ⟨c, hc⟩ : ∃ c, s[k]? = some c := ⟨_, List.getElem?_eq_getElem h1⟩
    refine WC.skipn ?_
    refine WC.seq' ?_
    refine WC.block ?_
    refine WC.seq ?_
    refine WL.p (by rfl) (Yl.move (by rfl)) ?_
    refine WL.p (by rfl) (Yl.move (by rfl)) ?_
    refine WL.p (by rfl) (Yl.indexB (i := k) mslt35 (by rfl) (by rfl) rfl h1) ?_
    refine WL.p (by rfl) (Yl.loadBB (i := k) (l := mkTo s k) msca5 (by rw [Nat.mul_one]; rfl) hs List.mem_cons_self (mkTo_get hc)) ?_
    refine WL.next ?_
    refine WC.block ?_
    refine WC.seq ?_
    refine WL.p (by rfl) (Yl.eqi (by rfl) (by rfl)) ?_
    refine WL.p (by rfl) (Yl.assign (by rfl)) ?_
    refine WL.next ?_
    refine WC.cond (by rfl) (fun h2 => ?_) (fun h2 => ?_)
    ·
      have hcv : c = 91 := UInt8.toNat_inj.1 (by have := of_decide_eq_true h2; exact Int.ofNat_inj.1 this)
      refine WC.region ?_
      refine WL.p (by rfl) (Yl.move (by rfl)) ?_
      refine WL.p (by rfl) (Yl.move (by rfl)) ?_
      refine WL.p (by rfl) (Yl.indexB (i := k) mslt35 (by rfl) (by rfl) rfl h1) ?_
      refine WL.s (Yr.storeBB (i := k) (c := 60) hs (by rw [Nat.mul_one]; rfl) (by rfl) (by rw [mkTo_len s k hk]; exact h1) (by kernel_rfl)) ?_
      clear hs; intro _ w1 hs
      rw [show (60 : UInt8) = mkB c from by rw [hcv]; rfl, mkTo_set hc] at hs
      refine WL.nil ?_
      refine At.blocknormal ?_
      refine At.blocknormal ?_
      refine At.then_ ?_
      refine WC.region ?_
      refine WL.p (by rfl) (Yl.move (by rfl)) ?_
      refine WL.p (by rfl) (Yl.add (by rfl) (by rfl) (by omega)) ?_
      refine WL.p (by rfl) (Yl.assign (by rfl)) ?_
      refine WL.nil ?_
      exact At.roundC (k + 1) hs (by repeat (first | exact trivial | refine ⟨by rfl, ?_⟩)) (by repeat (first | exact trivial | refine ⟨by rfl, ?_⟩)) (by omega) (by omega)
    ·
      refine WC.seq ?_
      refine WL.p (by rfl) (Yl.eqi (by rfl) (by rfl)) ?_
      refine WL.p (by rfl) (Yl.assign (by rfl)) ?_
      refine WL.next ?_
      refine WC.cond (by rfl) (fun h3 => ?_) (fun h3 => ?_)
      ·
        have hcv : c = 93 := UInt8.toNat_inj.1 (by have := of_decide_eq_true h3; exact Int.ofNat_inj.1 this)
        refine WC.region ?_
        refine WL.p (by rfl) (Yl.move (by rfl)) ?_
        refine WL.p (by rfl) (Yl.move (by rfl)) ?_
        refine WL.p (by rfl) (Yl.indexB (i := k) mslt35 (by rfl) (by rfl) rfl h1) ?_
        refine WL.s (Yr.storeBB (i := k) (c := 62) hs (by rw [Nat.mul_one]; rfl) (by rfl) (by rw [mkTo_len s k hk]; exact h1) (by kernel_rfl)) ?_
        clear hs; intro _ w1 hs
        rw [show (62 : UInt8) = mkB c from by rw [hcv]; rfl, mkTo_set hc] at hs
        refine WL.nil ?_
        refine At.blocknormal ?_
        refine At.blocknormal ?_
        refine At.then_ ?_
        refine WC.region ?_
        refine WL.p (by rfl) (Yl.move (by rfl)) ?_
        refine WL.p (by rfl) (Yl.add (by rfl) (by rfl) (by omega)) ?_
        refine WL.p (by rfl) (Yl.assign (by rfl)) ?_
        refine WL.nil ?_
        exact At.roundC (k + 1) hs (by repeat (first | exact trivial | refine ⟨by rfl, ?_⟩)) (by repeat (first | exact trivial | refine ⟨by rfl, ?_⟩)) (by omega) (by omega)
      ·
        have n1 : c ≠ 91 := fun h => by subst h; exact absurd rfl (of_decide_eq_false h2)
        have n2 : c ≠ 93 := fun h => by subst h; exact absurd rfl (of_decide_eq_false h3)
        have hmk : mkB c = c := by simp [mkB, n1, n2]
        rw [mkTo_same hc hmk] at hs
        refine WC.skip ?_
        refine At.blocknormal ?_
        refine At.blocknormal ?_
        refine At.then_ ?_
        refine WC.region ?_
        refine WL.p (by rfl) (Yl.move (by rfl)) ?_
        refine WL.p (by rfl) (Yl.add (by rfl) (by rfl) (by omega)) ?_
        refine WL.p (by rfl) (Yl.assign (by rfl)) ?_
        refine WL.nil ?_
        exact At.roundC (k + 1) hs (by repeat (first | exact trivial | refine ⟨by rfl, ?_⟩)) (by repeat (first | exact trivial | refine ⟨by rfl, ?_⟩)) (by omega) (by omega)
  ·
    have h1 : k = s.length := by have := of_decide_eq_false h1; omega
    subst h1
    rw [mkTo_all] at hs
    refine WC.exit ?_
    refine At.thenexit ?_
    refine At.thenexit ?_
    refine At.blockexit ?_
    refine At.then_ ?_
    refine WC.seq ?_
    refine WL.p (by rfl) (Yl.move (by rfl)) ?_
    refine WL.p (by rfl) (Yl.bufStr mslu35 mu8 mstr9 (by rfl) hs List.mem_cons_self (by simp)) ?_
    refine WL.p (by rfl) (Yl.assign (by rfl)) ?_
    refine WL.next ?_
    refine WC.ret ?_
    refine fin1' rfl (by rfl) ?_
    exact RetP.mk hs rfl

def bufV (s : Str) : Option (Nat × Nat) → Value
  | none => .slice none 0 0
  | some (b, c) => .slice (some ⟨b, 0, none⟩) s.length c
def bufC (s : Str) (k : Nat) : Option (Nat × Nat) → List Chunk
  | none => []
  | some (b, _) => [bb b (mkTo s k)]

set_option maxHeartbeats 4000000 in
theorem mo_replace (ba : Nat) (s : Str) (w : World) (hc1 : CellsAt w ba 0 tabM) (hb0 : s.length ≤ 1048576) : Calls Tryz.prog 214 [bp ba 0, S s].toArray w (RetP w (S (s.map mkB))) := by
  refine enterN 41 Tryz.func214 rfl rfl rfl ?_
  have hs := Sat.start w
  refine WC.seq ?_
  refine WL.p (by rfl) (Yl.assign (by rfl)) ?_
  refine WL.next ?_
  refine WC.seq ?_
  refine WL.p (by rfl) (Yl.assign (by rfl)) ?_
  refine WL.next ?_
  refine WC.seq' ?_
  refine WC.seq ?_
  refine WL.p (by rfl) (Yl.assign (by rfl)) ?_
  refine WL.next ?_
  refine WC.block ?_
  refine WC.loopC (fun x : Nat × Option (Nat × Nat) => s.length - x.1) (fun x => [(6, I (x.1 : Int)), (5, bufV s x.2)]) (fun x => bufC s x.1 x.2) (fun x => x.1 ≤ s.length ∧ (x.2 = none → mkTo s x.1 = s)) [(0, bp ba 0), (1, S s)] (0, none) hs (by repeat (first | exact trivial | refine ⟨by rfl, ?_⟩)) (by repeat (first | exact trivial | refine ⟨by rfl, ?_⟩)) ⟨Nat.zero_le _, fun _ => mkTo_zero s⟩ (fun x w1 hk hs => ?_)
  obtain ⟨k, o⟩ := x
  obtain ⟨hk, hn⟩ := hk
  refine WC.seq' ?_
  refine WC.seq ?_
  refine WL.p (by rfl) (Yl.move (by rfl)) ?_
  refine WL.p (by rfl) (Yl.move (by rfl)) ?_
  refine WL.p (by rfl) (Yl.len_str mstr9 (by rfl)) ?_
  refine WL.p (by rfl) (Yl.lss (by rfl) (by rfl)) ?_
  refine WL.next ?_
  refine WC.cond (by rfl) (fun h1 => ?_) (fun h1 => ?_)
  ·
    have hlt : k < s.length := by have := of_decide_eq_true h1; simp only at this; omega
    clear h1
    obtain ⟨c, hc⟩ : ∃ c, s[k]? = some c := ⟨_, List.getElem?_eq_getElem hlt⟩
    refine WC.skipn ?_
    refine WC.seq' ?_
    refine WC.block ?_
    refine WC.seq ?_
    refine WL.p (by rfl) (Yl.move (by rfl)) ?_
    refine WL.p (by rfl) (Yl.move (by rfl)) ?_
    refine WL.p (by rfl) (Yl.index (k := k) (c := c) mstr9 (by rfl) (by rfl) rfl hc) ?_
    refine WL.p (by rfl) (Yl.assign (by rfl)) ?_
    refine WL.next ?_
    refine WC.seq ?_
    refine WL.p (by rfl) (Yl.move (by rfl)) ?_
    refine WL.p (by rfl) (Yl.move (by rfl)) ?_
    refine WL.p (by rfl) (Yl.nilCheck (by rfl)) ?_
    refine WL.p (by rfl) (Yl.indexArr (i := c.toNat) marr90 msz5 (by rfl) (by rfl) rfl c.toNat_lt) ?_
    refine WL.p (by rfl) (Yl.loadC (o := 0) (j := c.toNat) msca5 (by rw [Nat.mul_one, Nat.zero_add]; rfl) (hc1.ext hs.below) (tabM_get c)) ?_
    refine WL.p (by rfl) (Yl.move (by rfl)) ?_
    refine WL.p (by rfl) (Yl.nei (by rfl) (by rfl)) ?_
    refine WL.next ?_
    refine WC.cond (by rfl) (fun h2 => ?_) (fun h2 => ?_)
    ·
      cases o with
      | none =>
        replace hn := hn rfl
        refine WC.seq' ?_
        refine WC.seq ?_
        refine WL.p (by rfl) (Yl.move (by rfl)) ?_
        refine WL.p (by rfl) (Yl.eqnil mslu35 (by rfl)) ?_
        refine WL.next ?_
        refine WC.condT (by rfl) ?_
        refine WC.region ?_
        refine WL.p (by rfl) (Yl.move (by rfl)) ?_
        refine WL.r (by rfl) (Yr.strBuf hs mstr9 mslu35 mu8 (by rfl)) ?_
        clear hs; rintro _ w1 ⟨b, cp, rfl, hb, hs⟩
        refine WL.p (by rfl) (Yl.assign (by rfl)) ?_
        refine WL.nil ?_
        refine At.then_ ?_
        have hs : Sat N0 w w1 (bb b (mkTo s k) :: []) := by rw [hn]; exact hs
        refine WC.region ?_
        refine WL.p (by rfl) (Yl.move (by rfl)) ?_
        refine WL.p (by rfl) (Yl.move (by rfl)) ?_
        refine WL.p (by rfl) (Yl.move (by rfl)) ?_
        refine WL.p (by rfl) (Yl.move (by rfl)) ?_
        refine WL.p (by rfl) (Yl.nilCheck (by rfl)) ?_
        refine WL.p (by rfl) (Yl.indexArr (i := c.toNat) marr90 msz5 (by rfl) (by rfl) rfl c.toNat_lt) ?_
        refine WL.p (by rfl) (Yl.loadC (o := 0) (j := c.toNat) msca5 (by rw [Nat.mul_one, Nat.zero_add]; rfl) (hc1.ext hs.below) (tabM_get c)) ?_
        refine WL.p (by rfl) (Yl.indexB (i := k) mslt35 (by rfl) (by rfl) rfl hlt) ?_
        refine WL.s (Yr.storeBB (i := k) (c := mkB c) hs (by rw [Nat.mul_one]; rfl) (by rfl) (by rw [mkTo_len s k hk]; exact hlt) (by kernel_rfl)) ?_
        clear hs; intro _ w1 hs
        rw [mkTo_set hc] at hs
        refine WL.nil ?_
        refine At.blocknormal ?_
        refine At.then_ ?_
        refine WC.region ?_
        refine WL.p (by rfl) (Yl.move (by rfl)) ?_
        refine WL.p (by rfl) (Yl.add (by rfl) (by rfl) (by simp only; omega)) ?_
        refine WL.p (by rfl) (Yl.assign (by rfl)) ?_
        refine WL.nil ?_
        exact At.roundC (k + 1, some (b, cp)) hs (by repeat (first | exact trivial | refine ⟨by rfl, ?_⟩)) (by repeat (first | exact trivial | refine ⟨by rfl, ?_⟩)) (by simp only; omega) ⟨by simp only; omega, fun h => by cases h⟩
      | some bc =>
        obtain ⟨b, cp⟩ := bc
        refine WC.seq' ?_
        refine WC.seq ?_
        refine WL.p (by rfl) (Yl.move (by rfl)) ?_
        refine WL.p (by rfl) (Yl.eqnil mslu35 (by rfl)) ?_
        refine WL.next ?_
        refine WC.condF (by rfl) ?_
        refine WC.skipn ?_
        refine WC.region ?_
        refine WL.p (by rfl) (Yl.move (by rfl)) ?_
        refine WL.p (by rfl) (Yl.move (by rfl)) ?_
        refine WL.p (by rfl) (Yl.move (by rfl)) ?_
        refine WL.p (by rfl) (Yl.move (by rfl)) ?_
        refine WL.p (by rfl) (Yl.nilCheck (by rfl)) ?_
        refine WL.p (by rfl) (Yl.indexArr (i := c.toNat) marr90 msz5 (by rfl) (by rfl) rfl c.toNat_lt) ?_
        refine WL.p (by rfl) (Yl.loadC (o := 0) (j := c.toNat) msca5 (by rw [Nat.mul_one, Nat.zero_add]; rfl) (hc1.ext hs.below) (tabM_get c)) ?_
        refine WL.p (by rfl) (Yl.indexB (i := k) mslt35 (by rfl) (by rfl) rfl hlt) ?_
        refine WL.s (Yr.storeBB (i := k) (c := mkB c) hs (by rw [Nat.mul_one]; rfl) (by rfl) (by rw [mkTo_len s k hk]; exact hlt) (by kernel_rfl)) ?_
        clear hs; intro _ w1 hs
        rw [mkTo_set hc] at hs
        refine WL.nil ?_
        refine At.blocknormal ?_
        refine At.then_ ?_
        refine WC.region ?_
        refine WL.p (by rfl) (Yl.move (by rfl)) ?_
        refine WL.p (by rfl) (Yl.add (by rfl) (by rfl) (by simp only; omega)) ?_
        refine WL.p (by rfl) (Yl.assign (by rfl)) ?_
        refine WL.nil ?_
        exact At.roundC (k + 1, some (b, cp)) hs (by repeat (first | exact trivial | refine ⟨by rfl, ?_⟩)) (by repeat (first | exact trivial | refine ⟨by rfl, ?_⟩)) (by simp only; omega) ⟨by simp only; omega, fun h => by cases h⟩
    ·
      have hmk : mkB c = c := UInt8.toNat_inj.1 (Int.ofNat_inj.1 (by simpa using h2))
      have e1 := mkTo_same hc hmk
      refine WC.skip ?_
      have hs : Sat N0 w w1 (bufC s (k + 1) o ++ []) := by cases o with | none => exact hs | some bc => (simp only [bufC] at hs ⊢; rw [← e1]; exact hs)
      refine At.blocknormal ?_
      refine At.then_ ?_
      refine WC.region ?_
      refine WL.p (by rfl) (Yl.move (by rfl)) ?_
      refine WL.p (by rfl) (Yl.add (by rfl) (by rfl) (by simp only; omega)) ?_
      refine WL.p (by rfl) (Yl.assign (by rfl)) ?_
      refine WL.nil ?_
      exact At.roundC (k + 1, o) hs (by repeat (first | exact trivial | refine ⟨by rfl, ?_⟩)) (by repeat (first | exact trivial | refine ⟨by rfl, ?_⟩)) (by simp only; omega) ⟨by simp only; omega, fun h => by rw [← e1]; exact hn h⟩
  ·
    have h1 : k = s.length := by have := of_decide_eq_false h1; simp only at this hk; omega
    subst h1
    refine WC.exit ?_
    refine At.thenexit ?_
    refine At.thenexit ?_
    refine At.blockexit ?_
    refine At.then_ ?_
    cases o with
    | none =>
      have e1 := hn rfl
      rw [mkTo_all] at e1
      refine WC.seq' ?_
      refine WC.seq ?_
      refine WL.p (by rfl) (Yl.move (by rfl)) ?_
      refine WL.p (by rfl) (Yl.eqnil mslu35 (by rfl)) ?_
      refine WL.next ?_
      refine WC.condT (by rfl) ?_
      refine WC.seq ?_
      refine WL.p (by rfl) (Yl.move (by rfl)) ?_
      refine WL.p (by rfl) (Yl.assign (by rfl)) ?_
      refine WL.next ?_
      refine WC.ret ?_
      refine At.thenret ?_
      refine fin1' rfl (by rfl) ?_
      exact RetP.mk hs (by rw [e1])
    | some bc =>
      obtain ⟨b, cp⟩ := bc
      have hs : Sat N0 w w1 (bb b (mkTo s s.length) :: []) := hs
      rw [mkTo_all] at hs
      refine WC.seq' ?_
      refine WC.seq ?_
      refine WL.p (by rfl) (Yl.move (by rfl)) ?_
      refine WL.p (by rfl) (Yl.eqnil mslu35 (by rfl)) ?_
      refine WL.next ?_
      refine WC.condF (by rfl) ?_
      refine WC.skipn ?_
      refine WC.seq ?_
      refine WL.p (by rfl) (Yl.move (by rfl)) ?_
      refine WL.p (by rfl) (Yl.bufStr mslu35 mu8 mstr9 (by rfl) hs List.mem_cons_self (by simp)) ?_
      refine WL.p (by rfl) (Yl.assign (by rfl)) ?_
      refine WL.next ?_
      refine WC.ret ?_
      refine fin1' rfl (by rfl) ?_
      exact RetP.mk hs rfl

theorem fin0 {P : Program} {fn : Func} {E : Ending → World → Prop} {e : Env} {w : World} {n : Nat} (hr : fn.results = #[]) (h : E (.returned (.tuple #[])) w) : At n (bodyPost P fn E) .normal e w := fun a ha =>
  bodyPost_end (results_none hr _ _ _) ha.defers h

theorem mfn36 : FN Tryz.prog 135 := FN.of Tryz.func135 (by kernel_rfl) (by kernel_rfl)
theorem mfn25 : FN Tryz.prog 106 := FN.of Tryz.func106 (by kernel_rfl) (by kernel_rfl)
theorem mfn16 : FN Tryz.prog 75 := FN.of Tryz.func75 (by kernel_rfl) (by kernel_rfl)
theorem mfn17 : FN Tryz.prog 76 := FN.of Tryz.func76 (by kernel_rfl) (by kernel_rfl)
theorem mfn117 : FN Tryz.prog 214 := FN.of Tryz.func214 (by kernel_rfl) (by kernel_rfl)

theorem cellsAt_of {w : World} {b : Nat} {cs : List Value} {T : TypeId} (h : w.heap[b]? = some (.cells cs.toArray T (0, 0))) : CellsAt w b 0 cs := fun j v hv => by
  rw [Nat.zero_add, cell_of_heap h]; exact hv

/-- What buildOnce leaves. -/
def OnceR (b : Nat) (x0 x1 x2 : Value) (w w' : World) : Prop := Touch (fun k => k = b) w w' ∧ ∃ ba, w.heap.size ≤ ba ∧ ba < w'.heap.size ∧
  w'.heap[b]? = some (.cells [x0, x1, x2, .iface 218 (bp ba 0), .slice none 0 0].toArray 160 (0, 0)) ∧ w'.heap[ba]? = some (.cells tabM.toArray 217 (0, 0))

set_option maxHeartbeats 1000000 in
theorem mo_once (b : Nat) (x0 x1 x2 : Value) (a : Option Addr) (cp : Nat) (w : World) (hbx : w.heap[b]? = some (.cells [x0, x1, x2, .nilIface, .slice a 4 cp].toArray 160 (0, 0)))
    (hok : Sl.Ok w (⟨[[91], [60], [93], [62]], a, cp⟩ : Sl Str)) : Calls Tryz.prog 107 [bp b 0].toArray w (fun e w' => e = .returned (.tuple #[]) ∧ OnceR b x0 x1 x2 w w') := by
  have hbl : b < w.heap.size := (Array.getElem?_eq_some_iff.1 hbx).1
  refine enterN 10 Tryz.func107 rfl rfl rfl ?_
  have hs : Sat (fun k => k = b) w w [box b 160 [x0, x1, x2, .nilIface, .slice a 4 cp]] := Sat.startM (c := box b 160 [x0, x1, x2, .nilIface, .slice a 4 cp]) hbx (fun k hk => by simp only [box] at hk; omega)
  refine WC.seq ?_
  refine WL.p (by rfl) (Yl.move (by rfl)) ?_
  refine WL.p (by rfl) (Yl.move (by rfl)) ?_
  refine WL.call hs (by rfl) (Yc.func (by rfl) mfn36) (mo_build b x0 x1 x2 .nilIface a cp w (cellsAt_of hbx) hok) ?_
  have hs0 := hs; clear hs; rintro _ w1 hb ⟨ba, rfl, hba, htab⟩ hs; clear hs
  have hba2 : ba < w1.heap.size := (Array.getElem?_eq_some_iff.1 htab).1
  have hs := hs0.add (c := box ba 217 tabM) hb htab (fun k hk => by simp only [box] at hk; omega)
  refine WL.p (by rfl) (Yl.nilCheck (by rfl)) ?_
  refine WL.p (by rfl) (Yl.fieldAddr mfa67_1 (by rfl)) ?_
  refine WL.s (Yr.storeB hs (by rfl) (by rfl) (by rfl) (by repeat (first | exact Repl.here | apply Repl.there)) (by repeat (first | (apply SetAt.here; repeat (first | exact Over.nil | apply Over.cons)) | apply SetAt.there)) (by rfl) (by kernel_rfl)) ?_
  clear hs; intro _ w2 hs
  refine WL.next ?_
  refine WC.region ?_
  refine WL.p (by rfl) (Yl.move (by rfl)) ?_
  refine WL.p (by rfl) (Yl.nilCheck (by rfl)) ?_
  refine WL.p (by rfl) (Yl.fieldAddr mfa67_2 (by rfl)) ?_
  refine WL.s (Yr.storeB hs (by rfl) (by rfl) (by rfl) (by repeat (first | exact Repl.here | apply Repl.there)) (by repeat (first | (apply SetAt.here; repeat (first | exact Over.nil | apply Over.cons)) | apply SetAt.there)) (by rfl) (by kernel_rfl)) ?_
  clear hs; intro _ w3 hs
  refine WL.nil ?_
  refine fin0 rfl ⟨rfl, ?_⟩
  refine ⟨hs.tch, ba, hba, ((hs.all _ List.mem_cons_self).2 ba rfl).2, (hs.all (box b 160 _) (List.mem_cons_of_mem _ List.mem_cons_self)).1, (hs.all _ List.mem_cons_self).1⟩

theorem touchC {w : World} {b i : Nat} {cs : List Value} {T : TypeId} {v : Value} (h : w.heap[b]? = some (.cells cs.toArray T (0, 0))) :
    Touch (fun k => k = b) w (w.setCell ⟨b, i, none⟩ v) ∧ (w.setCell ⟨b, i, none⟩ v).heap[b]? = some (.cells (cs.set i v).toArray T (0, 0)) := by
  rw [setCell_eq_setRow w b i cs.toArray T (0, 0) v h]
  refine ⟨touch_setRow, ?_⟩
  rw [setRow_heap w b cs.toArray _ T (0, 0) h]
  simp

theorem cell_at {w : World} {b i : Nat} {cs : List Value} {T : TypeId} {v : Value} (h : w.heap[b]? = some (.cells cs.toArray T (0, 0))) (hv : cs[i]? = some v) : w.cell? ⟨b, i, none⟩ = some v := by
  rw [cell_of_heap h]; exact hv
theorem frozen_at {w : World} {b i : Nat} {cs : List Value} {T : TypeId} (h : w.heap[b]? = some (.cells cs.toArray T (0, 0))) : w.frozen? ⟨b, i, none⟩ = false := by
  simp [World.frozen?, h]

theorem touch_drew {S : Nat → Prop} {w : World} : Touch S w w.drew := Touch.of_below ((Below.refl _ _).drew) |>.mono (fun _ h => h)

theorem mo_do (b : Nat) (x2 : Value) (a : Option Addr) (cp : Nat) (w : World) (hbx : w.heap[b]? = some (.cells [.int .u32 0, .int .i32 0, x2, .nilIface, .slice a 4 cp].toArray 160 (0, 0)))
    (hok : ∀ w1, Touch (fun k => k = b) w w1 → Sl.Ok w1 (⟨[[91], [60], [93], [62]], a, cp⟩ : Sl Str)) :
    Calls Tryz.prog 106 [bp b 0, .func (.func 107) #[bp b 0] #[]].toArray w (fun e w' => e = .returned (.tuple #[]) ∧ OnceR b (.int .u32 1) (.int .i32 0) x2 w w') := by
  obtain ⟨t1, hb1⟩ := touchC (i := 1) (v := .int .i32 1) hbx
  refine (mu_do b (bp b 0) w (OnceR b (.int .u32 0) (.int .i32 1) x2 (w.setCell ⟨b, 1, none⟩ (.int .i32 1))) (cell_at hbx rfl) (cell_at hbx rfl) (frozen_at hbx) (mo_once b _ _ _ a cp _ hb1 (hok _ t1)) ?_).mono ?_
  · rintro w' ⟨_, ba, _, _, h3, _⟩
    exact ⟨⟨_, cell_at h3 rfl⟩, cell_at h3 rfl, frozen_at h3, frozen_at h3⟩
  · rintro e w' ⟨rfl, w2, ⟨t2, ba, g1, g2, g3, g4⟩, rfl⟩
    have d3 : w2.drew.heap[b]? = some (.cells [.int .u32 0, .int .i32 1, x2, .iface 218 (bp ba 0), .slice none 0 0].toArray 160 (0, 0)) := g3
    obtain ⟨t3, hb3⟩ := touchC (i := 0) (v := .int .u32 1) d3
    obtain ⟨t4, hb4⟩ := touchC (i := 1) (v := .int .i32 0) hb3
    have hbl : b < w.heap.size := (Array.getElem?_eq_some_iff.1 hbx).1
    have hne : ¬ ba = b := by have := t1.size; omega
    have hd : ba < w2.drew.heap.size := g2
    refine ⟨rfl, (((t1.trans t2).trans touch_drew).trans t3).trans t4, ba, by have := t1.size; omega, Nat.lt_of_lt_of_le (Nat.lt_of_lt_of_le hd t3.size) t4.size, hb4, ?_⟩
    rw [t4.block ba (Nat.lt_of_lt_of_le hd t3.size) hne, t3.block ba hd hne]
    exact g4

theorem msll51 : SlLit Tryz.prog 48 9 1 [.string ⟨#[]⟩] := SlLit.of (zv := .string ⟨#[]⟩) (by kernel_rfl) (by kernel_rfl) (by kernel_rfl) rfl
theorem melt51 : ElT Tryz.prog 48 9 ([] : Str) 16 := ElT.of (zv := .string ⟨#[]⟩) (by kernel_rfl) (by kernel_rfl) rfl (fun w => own_flat (Nat.zero_le _))
theorem mbt67 : BT Tryz.prog 160 [.int .u32 0, .int .i32 0, .int .u32 0, .nilIface, .slice none 0 0] [(0, 3), (3, 1), (4, 1)] := BT.of (z := .agg #[.int .u32 0, .int .i32 0, .int .u32 0, .nilIface, .slice none 0 0]) (by kernel_rfl) (by kernel_rfl) rfl (fun w => by kernel_rfl)

abbrev mlit : List Str := [[91], [60], [93], [62]]

set_option maxHeartbeats 1000000 in
theorem mo_new (b0 : Nat) (w : World) (hc : CellsAt w b0 0 [S [91], S [60], S [93], S [62]]) :
    Calls Tryz.prog 75 [.slice (some ⟨b0, 0, none⟩) 4 4].toArray w (fun e w' => ∃ (b : Nat) (s : Sl Str) (F : List Nat), e = .returned (bp b 0) ∧ s.l = mlit ∧ Sat N0 w w' [box b 160 [.int .u32 0, .int .i32 0, .int .u32 0, .nilIface, s.v], ow s F]) := by
  refine enterN 12 Tryz.func75 rfl rfl rfl ?_
  have hs := Sat.start w
  refine WC.seq ?_
  refine WL.p (by rfl) (Yl.assign (by rfl)) ?_
  refine WL.next ?_
  refine WC.seq' ?_
  refine WC.seq ?_
  refine WL.p (by rfl) (Yl.move (by rfl)) ?_
  refine WL.p (by rfl) (Yl.len_sl mslu51 (by rfl)) ?_
  refine WL.p (by rfl) (Yl.remw (by rfl) (by rfl) (by decide)) ?_
  refine WL.p (by rfl) (Yl.eqi (by rfl) (by rfl)) ?_
  refine WL.next ?_
  refine WC.condF (by rfl) ?_
  refine WC.skipn ?_
  replace hs := hs.nilsl (α := Str)
  refine WC.seq ?_
  refine WL.p (by rfl) (Yl.move (by rfl)) ?_
  refine WL.r (by rfl) (Yr.append (s := (⟨[], none, 0⟩ : Sl Str)) (F := []) (xs := mlit) (b := b0) (off := 0) (m := 4) (c := 4) hs melt51 (by repeat (first | exact Sel.nil | (apply Sel.cons; (repeat (first | exact Ext.here | apply Ext.there))))) (by rfl) (by rfl) rfl (hc.ext hs.below) (fun x hx => by simp [mlit] at hx; rcases hx with rfl | rfl | rfl | rfl <;> (show WfS _; simp [WfS])) (by decide) (by decide)) ?_
  clear hs; rintro _ w1 ⟨s, F, rfl, hsl, hs⟩
  refine WL.p (by rfl) (Yl.build mbt67 (by rfl) (by repeat (first | exact Fill.nil | (apply Fill.cons; rfl; rfl; rfl; repeat (first | (apply SetAt.here; repeat (first | exact Over.nil | apply Over.cons)) | apply SetAt.there))))) ?_
  refine WL.r (by rfl) (Yr.box hs (by rfl) (by rfl)) ?_
  clear hs; rintro _ w2 ⟨b, rfl, hb, hs⟩
  refine WL.p (by rfl) (Yl.assign (by rfl)) ?_
  refine WL.next ?_
  refine WC.ret ?_
  refine fin1' rfl (by rfl) ?_
  exact ⟨b, s, F, rfl, by simpa using hsl, hs⟩

theorem mo_meth (ba : Nat) (w : World) : (Go.method (Tryz.prog.types.size + Made.depth) 218 (bp ba 0) "Replace").run Tryz.prog w = .ok (214, bp ba 0) w := by kernel_rfl

theorem Yc.invoke {P : Program} {n : Nat} {e : Env} {w : World} {x : Operand} {name : String} {xs : List Operand} {tys : Array TypeId} {f : FuncId} {us : List Value} {T : TypeId} {v r : Value} (hx : ev? e x = some (.iface T v)) (hev : evs? e xs = some us)
    (hm : (Go.method (P.types.size + Made.depth) T v name).run P w = .ok (f, r) w) (hfn : FN P f) : Yc P n e w (.call ⟨.invoke x name, xs.toArray, tys⟩) f (r :: us) := fun o a ha h => by
  have hmap : (xs.toArray.map a.eval) = us.toArray := by simp [evs?_map ha hev]
  have h1 : ((#[Value.iface T v] ++ us.toArray)[0]? : Option Value) = some (.iface T v) := by simp
  have h2 : (#[Value.iface T v] ++ us.toArray).extract 1 (#[Value.iface T v] ++ us.toArray).size = us.toArray := by simp
  simp only [execOp, h, resolve, ha.ev hx, Sem.run_bind, Sem.run_pure, Result.andThen_ok, hmap, Go.invoke, h1, h2, callMethod, run_program, hm]
  have := hfn (r :: us).toArray w
  simpa using this

set_option maxHeartbeats 1000000 in
theorem mo_rep (b : Nat) (t : Str) (x2 : Value) (a : Option Addr) (cp : Nat) (w : World) (hbx : w.heap[b]? = some (.cells [.int .u32 0, .int .i32 0, x2, .nilIface, .slice a 4 cp].toArray 160 (0, 0)))
    (hok : ∀ w1, Touch (fun k => k = b) w w1 → Sl.Ok w1 (⟨[[91], [60], [93], [62]], a, cp⟩ : Sl Str)) (hb0 : t.length ≤ 1048576) :
    Calls Tryz.prog 76 [bp b 0, S t].toArray w (fun e w' => e = .returned (S (t.map mkB)) ∧ Touch (fun k => k = b) w w') := by
  refine enterN 17 Tryz.func76 rfl rfl rfl ?_
  refine WC.seq ?_
  refine WL.p (by rfl) (Yl.assign (by rfl)) ?_
  refine WL.next ?_
  refine WC.seq ?_
  refine WL.p (by rfl) (Yl.move (by rfl)) ?_
  refine WL.p (by rfl) (Yl.nilCheck (by rfl)) ?_
  refine WL.p (by rfl) (Yl.fieldAddr mfa67_0 (by rfl)) ?_
  refine WL.p (by rfl) (Yl.move (by rfl)) ?_
  refine WL.p (by rfl) (Yl.makeFunc (xs := [.tmp 8]) (ys := []) (by rfl) (by rfl)) ?_
  refine WL.callR (by rfl) (Yc.func (by rfl) mfn25) (mo_do b x2 a cp w hbx hok) ?_
  rintro _ w1 ⟨rfl, t1, ba, g1, g2, g3, g4⟩
  refine ⟨_, rfl, ?_⟩
  refine WL.next ?_
  refine WC.seq ?_
  refine WL.p (by rfl) (Yl.move (by rfl)) ?_
  refine WL.p (by rfl) (Yl.nilCheck (by rfl)) ?_
  refine WL.p (by rfl) (Yl.fieldAddr mfa67_1 (by rfl)) ?_
  refine WL.p (by rfl) (Yl.load msca65 (by rfl) (cell_at g3 rfl)) ?_
  refine WL.p (by rfl) (Yl.move (by rfl)) ?_
  refine WL.callR (by rfl) (Yc.invoke (by rfl) (by rfl) (mo_meth ba _) mfn117) (mo_replace ba t w1 (cellsAt_of g4) hb0) ?_
  rintro _ w2 ⟨rfl, hb2⟩
  refine ⟨_, rfl, ?_⟩
  refine WL.p (by rfl) (Yl.assign (by rfl)) ?_
  refine WL.next ?_
  refine WC.ret ?_
  refine fin1' rfl (by rfl) ?_
  exact ⟨rfl, t1.trans (Touch.of_below hb2)⟩

theorem ok_stab {w0 w w1 : World} {b : Nat} {cs : List Value} {T : TypeId} {s : Sl Str} {F : List Nat} (hs : Sat N0 w0 w [box b T cs, ow s F]) (ht : Touch (fun k => k = b) w w1) : Sl.Ok w1 s := by
  have hm : ow s F ∈ [box b T cs, ow s F] := List.mem_cons_of_mem _ List.mem_cons_self
  have hsep := (List.pairwise_cons.1 hs.sep).1 _ List.mem_cons_self
  have hall := hs.all _ hm
  have := (ow s F).loc w w1 (fun k hk => ht.block k (hall.2 k hk).2 (fun h => hsep k h hk)) hall.1
  exact Own.ok this.1

set_option maxHeartbeats 1000000 in
theorem mo_impl (s : Str) (w : World) (hb0 : s.length ≤ 1048576) : Calls Tryz.prog 50 [S s].toArray w (RetP w (S (s.map mkB))) := by
  refine enterN 7 Tryz.func50 rfl rfl rfl ?_
  have hs := Sat.start w
  refine WC.seq ?_
  refine WL.p (by rfl) (Yl.assign (by rfl)) ?_
  refine WL.next ?_
  refine WC.seq ?_
  refine WL.r (by rfl) (Yr.buildSlice hs msll51 (by rfl) (by rfl) (by rfl) (by repeat (first | exact Fill.nil | (apply Fill.cons; rfl; rfl; rfl; repeat (first | (apply SetAt.here; repeat (first | exact Over.nil | apply Over.cons)) | apply SetAt.there)))) (by rfl)) ?_
  clear hs; rintro _ w1 ⟨b0, rfl, hb1, hs⟩
  refine WL.callR (by rfl) (Yc.func (by rfl) mfn16) (mo_new b0 w1 (cellsAt_of (hs.all _ List.mem_cons_self).1)) ?_
  rintro _ w2 ⟨b, r, F, rfl, hl, hs2⟩
  refine ⟨_, rfl, ?_⟩
  refine WL.p (by rfl) (Yl.move (by rfl)) ?_
  obtain ⟨rl, ra, rc⟩ := r
  simp only at hl
  subst hl
  have hbn : w1.heap.size ≤ b := by have := ((hs2.all _ List.mem_cons_self).2 b rfl).1; rcases this with h | h; exact h; exact h.elim
  refine WL.callR (by rfl) (Yc.func (by rfl) mfn17) (mo_rep b s _ ra rc w2 (hs2.all _ List.mem_cons_self).1 (fun w3 ht => ok_stab hs2 ht) hb0) ?_
  rintro _ w3 ⟨rfl, t3⟩
  refine ⟨_, rfl, ?_⟩
  refine WL.p (by rfl) (Yl.assign (by rfl)) ?_
  refine WL.next ?_
  refine WC.ret ?_
  refine fin1' rfl (by rfl) ?_
  have hb2 := hs2.below
  have hle : w.heap.size ≤ w1.heap.size := hb1.size
  refine ⟨rfl, ?_⟩
  exact Touch.below (S := N0) ⟨(t3.os.trans hb2.os).trans hb1.os, (t3.tape.trans hb2.tape).trans hb1.tape, (t3.output.trans hb2.output).trans hb1.output, Nat.le_trans hle (Nat.le_trans hb2.size t3.size), fun k hk _ => (t3.block k (by have := hb2.size; omega) (by omega)).trans ((hb2.block k (by omega)).trans (hb1.block k hk))⟩ (fun _ h => h)

end Go.Sw
