/- slices.SortFunc at addresses, laid at this translation. No conditions. -/
import Derived.Test.YtppjnohcfljmoaaSh
import Derived.Test.YtppjnohcfljmoaaLibI
set_option linter.all false
namespace Go.Sw
open Go Go.RowKit Go.Proofs Go.Shelf Go.Sort Go.Lib

set_option maxHeartbeats 1000000 in
set_option maxRecDepth 100000 in
theorem cmpAddrs_walk (a b c d : List UInt8) (W : World) : Calls Try.prog 32 #[.agg #[.string ⟨⟨a⟩⟩, .string ⟨⟨b⟩⟩], .agg #[.string ⟨⟨c⟩⟩, .string ⟨⟨d⟩⟩]] W fun e w' => e = .returned (.int .i64 (if Lib.compareBytes a c ≠ 0 then Lib.compareBytes a c else Lib.compareBytes b d)) ∧ ∃ q os', w' = grow (W.drewN q) os' := by
  have h1 := fun W' => Try.strings_Compare ⟨⟨a⟩⟩ ⟨⟨c⟩⟩ W'
  have h2 := fun W' => Try.strings_Compare ⟨⟨b⟩⟩ ⟨⟨d⟩⟩ W'
  generalize Lib.compareBytes a c = r1 at h1 ⊢
  generalize Lib.compareBytes b d = r2 at h2 ⊢
  go_enter Try.func32, Try.ntmps32
  go_wp2_with (go_at_call 39; first | (refine (h1 _).mono ?_; rintro e w' ⟨rfl, rfl⟩) | (refine (h2 _).mono ?_; rintro e w' ⟨rfl, rfl⟩))
  all_goals go_ret
  all_goals (first | exact ⟨rfl, 0, _, by rw [alloc_eq_grow, alloc_eq_grow, grow_grow]; rfl⟩ | exact ⟨by simp_all, 0, _, by rw [alloc_eq_grow, alloc_eq_grow, grow_grow]; rfl⟩)

theorem sortAddr_calls (s : Sl TAddr) (F : List Nat) (w : World) (hF : Own.own w s F) (hn : F.Nodup) (hlen : s.l.length ≤ 4611686018427387903) : Calls Try.prog 31 [Sl.v s, .func (.func 32) #[] #[]].toArray w (RetM w s F (.tuple #[]) (fun s' => s'.l = s.l.mergeSort leA)) :=
  sort_calls (fun b o c d w hH hb hsz => AnyQ.slices_SortFunc_total Try.sortAddr 2 Try.isAgg43 Try.sizeOf43 encA (fun _ => rfl) (fun x v hv => by simp [encA] at hv; rcases hv with rfl | rfl <;> rfl) cmpI swoA 32 #[] b o c d w (enters_of Try.func32 (by kernel_rfl) rfl) (fun m os dk hk x y => cmpAddrs_walk x.host x.path y.host y.path _) hH hb hsz totA) (fun p c w => AnyF.slices_SortFunc_none Try.sortAddr p c _ w) s F w hF hn hlen

end Go.Sw
