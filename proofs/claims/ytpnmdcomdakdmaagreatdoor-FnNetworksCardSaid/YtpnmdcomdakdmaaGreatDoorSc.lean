/- slices.SortFunc at addresses, laid at this translation. No conditions. -/
import Derived.Test.YtpnmdcomdakdmaaGreatDoorSh
import Derived.Test.YtpnmdcomdakdmaaGreatDoorLibI
import Derived.Shelf.SlGeneric
import Derived.Shelf.SlSortCmp.NoneTotal
import Derived.Ground.SlsfProg
import Derived.Ground.NamesProg
namespace Go.Proofs
open Go.Shelf
def Tryz.sortAddr_ren : Go.Shelf.Ren := ⟨fun | 6 => 177 | 15 => 203 | 14 => 241 | 28 => 264 | 29 => 265 | 20 => 292 | 21 => 293 | 22 => 294 | 23 => 295 | 24 => 296 | 25 => 297 | 26 => 298 | 27 => 299 | 46 => 336 | 47 => 317 | 48 => 318 | 49 => 337 | 50 => 338 | 57 => 361 | n => n, fun | 22 => 35 | 24 => 39 | 25 => 209 | 3 => 3 | 39 => 237 | 0 => 0 | 53 => 283 | 55 => 285 | 4 => 4 | 46 => 277 | 45 => 276 | 50 => 151 | 5 => 5 | 9 => 9 | 66 => 343 | 70 => 347 | 76 => 376 | 77 => 377 | n => n, fun | n => n⟩
theorem Tryz.sortAddr : Go.Proofs.SlLaysF0.n6 Tryz.prog Tryz.sortAddr_ren := {
  mixed := by kernel_rfl
  f6 := ⟨Tryz.f177.name, by decide, Tryz.func177.trans (congrArg some (by kernel_rfl))⟩
  f14 := ⟨Tryz.f241.name, by decide, Tryz.func241.trans (congrArg some (by kernel_rfl))⟩
  f15 := Tryz.func203.trans (congrArg some (by kernel_rfl))
  f20 := ⟨Tryz.f292.name, by decide, Tryz.func292.trans (congrArg some (by kernel_rfl))⟩
  f21 := ⟨Tryz.f293.name, by decide, Tryz.func293.trans (congrArg some (by kernel_rfl))⟩
  f22 := ⟨Tryz.f294.name, by decide, Tryz.func294.trans (congrArg some (by kernel_rfl))⟩
  f23 := ⟨Tryz.f295.name, by decide, Tryz.func295.trans (congrArg some (by kernel_rfl))⟩
  f24 := ⟨Tryz.f296.name, by decide, Tryz.func296.trans (congrArg some (by kernel_rfl))⟩
  f25 := ⟨Tryz.f297.name, by decide, Tryz.func297.trans (congrArg some (by kernel_rfl))⟩
  f26 := ⟨Tryz.f298.name, by decide, Tryz.func298.trans (congrArg some (by kernel_rfl))⟩
  f27 := ⟨Tryz.f299.name, by decide, Tryz.func299.trans (congrArg some (by kernel_rfl))⟩
  f28 := Tryz.func264.trans (congrArg some (by kernel_rfl))
  f29 := Tryz.func265.trans (congrArg some (by kernel_rfl))
  f46 := ⟨Tryz.f336.name, by decide, Tryz.func336.trans (congrArg some (by kernel_rfl))⟩
  f47 := Tryz.func317.trans (congrArg some (by kernel_rfl))
  f48 := Tryz.func318.trans (congrArg some (by kernel_rfl))
  f49 := ⟨Tryz.f337.name, by decide, Tryz.func337.trans (congrArg some (by kernel_rfl))⟩
  f50 := ⟨Tryz.f338.name, by decide, Tryz.func338.trans (congrArg some (by kernel_rfl))⟩
  f57 := ⟨Tryz.f361.name, by decide, Tryz.func361.trans (congrArg some (by kernel_rfl))⟩
  t0 := Tryz.underlying0
  a0 := Tryz.isAgg0
  z0 := Tryz.sizeOf0
  v0 := Tryz.zeroValue0
  t3 := Tryz.underlying3
  a3 := Tryz.isAgg3
  z3 := Tryz.sizeOf3
  v3 := Tryz.zeroValue3
  t4 := Tryz.underlying4
  a4 := Tryz.isAgg4
  z4 := Tryz.sizeOf4
  v4 := Tryz.zeroValue4
  t5 := Tryz.underlying5
  a5 := Tryz.isAgg5
  z5 := Tryz.sizeOf5
  v5 := Tryz.zeroValue5
  t9 := Tryz.underlying9
  a9 := Tryz.isAgg9
  z9 := Tryz.sizeOf9
  v9 := Tryz.zeroValue9
  t22 := Tryz.underlying35
  a22 := Tryz.isAgg35
  z22 := Tryz.sizeOf35
  v22 := Tryz.zeroValue35
  t25 := Tryz.underlying209
  a25 := Tryz.isAgg209
  z25 := Tryz.sizeOf209
  v25 := Tryz.zeroValue209
  t39 := Tryz.underlying237
  a39 := Tryz.isAgg237
  z39 := Tryz.sizeOf237
  v39 := Tryz.zeroValue237
  t45 := Tryz.underlying276
  a45 := Tryz.isAgg276
  z45 := Tryz.sizeOf276
  v45 := Tryz.zeroValue276
  t46 := Tryz.underlying277
  a46 := Tryz.isAgg277
  z46 := Tryz.sizeOf277
  v46 := Tryz.zeroValue277
  t50 := Tryz.underlying151
  a50 := Tryz.isAgg151
  z50 := Tryz.sizeOf151
  v50 := Tryz.zeroValue151
  t53 := Tryz.underlying283
  a53 := Tryz.isAgg283
  z53 := Tryz.sizeOf283
  v53 := Tryz.zeroValue283
  t55 := Tryz.underlying285
  a55 := Tryz.isAgg285
  z55 := Tryz.sizeOf285
  v55 := Tryz.zeroValue285
  t66 := Tryz.underlying343
  a66 := Tryz.isAgg343
  z66 := Tryz.sizeOf343
  v66 := Tryz.zeroValue343
  t70 := Tryz.underlying347
  a70 := Tryz.isAgg347
  z70 := Tryz.sizeOf347
  v70 := Tryz.zeroValue347
  t76 := Tryz.underlying376
  a76 := Tryz.isAgg376
  z76 := Tryz.sizeOf376
  v76 := Tryz.zeroValue376
  t77 := Tryz.underlying377
  a77 := Tryz.isAgg377
  z77 := Tryz.sizeOf377
  v77 := Tryz.zeroValue377 }
end Go.Proofs
set_option linter.all false
namespace Go.Sw
open Go Go.RowKit Go.Proofs Go.Shelf Go.Sort Go.Lib

set_option maxHeartbeats 1000000 in
set_option maxRecDepth 100000 in
theorem cmpAddrs_walk (a b c d : List UInt8) (W : World) : Calls Tryz.prog 178 #[.agg #[.string ⟨⟨a⟩⟩, .string ⟨⟨b⟩⟩], .agg #[.string ⟨⟨c⟩⟩, .string ⟨⟨d⟩⟩]] W fun e w' => e = .returned (.int .i64 (if Lib.compareBytes a c ≠ 0 then Lib.compareBytes a c else Lib.compareBytes b d)) ∧ ∃ q os', w' = grow (W.drewN q) os' := by
  have h1 := fun W' => Tryz.strings_Compare ⟨⟨a⟩⟩ ⟨⟨c⟩⟩ W'
  have h2 := fun W' => Tryz.strings_Compare ⟨⟨b⟩⟩ ⟨⟨d⟩⟩ W'
  generalize Lib.compareBytes a c = r1 at h1 ⊢
  generalize Lib.compareBytes b d = r2 at h2 ⊢
  go_enter Tryz.func178, Tryz.ntmps178
  go_wp2_with (go_at_call 242; first | (refine (h1 _).mono ?_; rintro e w' ⟨rfl, rfl⟩) | (refine (h2 _).mono ?_; rintro e w' ⟨rfl, rfl⟩))
  all_goals go_ret
  all_goals (first | exact ⟨rfl, 0, _, by rw [alloc_eq_grow, alloc_eq_grow, grow_grow]; rfl⟩ | exact ⟨by simp_all, 0, _, by rw [alloc_eq_grow, alloc_eq_grow, grow_grow]; rfl⟩)

theorem sortAddr_calls (s : Sl TAddr) (F : List Nat) (w : World) (hF : Own.own w s F) (hn : F.Nodup) (hlen : s.l.length ≤ 4611686018427387903) : Calls Tryz.prog 177 [Sl.v s, .func (.func 178) #[] #[]].toArray w (RetM w s F (.tuple #[]) (fun s' => s'.l = s.l.mergeSort leA)) :=
  sort_calls (fun b o c d w hH hb hsz => AnyQ.slices_SortFunc_total Tryz.sortAddr 2 Tryz.isAgg39 Tryz.sizeOf39 encA (fun _ => rfl) (fun x v hv => by simp [encA] at hv; rcases hv with rfl | rfl <;> rfl) cmpI swoA 178 #[] b o c d w (enters_of Tryz.func178 (by kernel_rfl) rfl) (fun m os dk hk x y => cmpAddrs_walk x.host x.path y.host y.path _) hH hb hsz totA) (fun p c w => AnyF.slices_SortFunc_none Tryz.sortAddr p c _ w) s F w hF hn hlen

end Go.Sw
