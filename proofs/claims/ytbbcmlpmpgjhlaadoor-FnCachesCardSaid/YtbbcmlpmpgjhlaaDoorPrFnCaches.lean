/- The law FnCaches: for every input it returns true, and the input reads as it did. No conditions. -/
import Derived.Test.YtbbcmlpmpgjhlaaDoorW
import Derived.Test.YtbbcmlpmpgjhlaaDoorOp
import Derived.Test.YtbbcmlpmpgjhlaaDoorTie
import Derived.Test.YtbbcmlpmpgjhlaaDoorCards
import Derived.LaidSub
import Derived.Lib.LaidTab
namespace Go.Proofs.YtbbcmlpmpgjhlaaDoor
open Go Go.RowKit Go.ChangeShapes Go.WideShapes Go.ChangeAt Go.Sw

set_option maxRecDepth 100000 in
theorem fnCaches_lifted (os : Os) (started : os.Started) (H : Type) (enc : TypeId × Value → H) :
    ReturnsInHanded {} Tryd.checked os 4 .any (fun w args => (Rows.fnCachesSpec.pre enc Tryd.prog Tryd.f4 Rows.fnCachesRow.domain false w args ∧ laidMetH Tryd.prog Rows.fnCachesRow.laid w) ∧ sizedMet enc Tryd.prog Tryd.f4 (OpenSpec.ofChange Rows.fnCachesSpec) false w args)
      (Rows.fnCachesSpec.post enc Tryd.prog Tryd.f4 false true false false) := by
  refine law_laid (C := Tryd.checked) (fn := Tryd.f4) (tb := 4) (laid := Rows.fnCachesRow.laid) own_ started (by kernel_rfl) Tryd.func4
    (ChangeSpec.witness_shaped (enc := enc) (C := Tryd.checked) (os := os) (X := fun w _ => laidMetH Tryd.prog Rows.fnCachesRow.laid w) false (World.laidAll Tryd.prog os Rows.fnCachesRow.laid) #[.slice none 0 0] 12 (World.laidAll_os _ _ _)
      (World.shaped_of_ZipB (by kernel_rfl) (by kernel_rfl)) (by kernel_rfl) (by kernel_rfl) (by kernel_rfl)
      (by rw [MakeChecks.laidMetH_plain _ _ _ (by kernel_rfl)]; exact laidMet_laidAll _ (by kernel_rfl) (by kernel_rfl))) rfl rfl (by kernel_rfl) laidOut_ (by kernel_rfl) ?_ ?_
  · intro ds hds
    match ds, hds with
    | [d0], _ => rfl
  · intro W base args ds ps hval0 hA0 hX hS
    have hm_ := maxlen_ W hS
    have hval : ∀ (j : Nat) t v, Tryd.f4.params[j]? = some t → args[j]? = some v → Value.okWide Tryd.prog W .any base t v := hval0
    have hA : DataW.TrodAll enc Tryd.prog W 0 (fun _ => true) true [22] args.toList ds ps := hA0
    clear hA0 hval0
    obtain ⟨v0, d0, rfl, rfl, h0⟩ := trodAll_one hA
    obtain ⟨x0, rfl, k0⟩ := openV_slice (el := 5) (by kernel_rfl) opens22 (hval 0 22 v0 rfl rfl) h0
    exact c_laws_FnCaches x0 W k0 hm_

theorem fnCaches_holds : Rows.FnCachesSaid :=
  OpenClaim.holds_of_wide 4 Tryd.f4 rfl rfl rfl rfl rfl rfl rfl ⟨rfl, rfl, rfl, rfl, rfl⟩ rfl rfl rfl rfl rfl (by kernel_rfl) Tryd.func4 (by kernel_rfl)
    (of_decide_eq_true (by kernel_rfl)) (by unfold Func.isWrapper; rw [if_neg (of_decide_eq_false (by kernel_rfl))]; exact ⟨rfl, rfl⟩)
    (fun os started H enc _ => fnCaches_lifted os started H enc)

theorem fnCaches_card : Rows.FnCachesCardSaid :=
  Claim7.holds_tied_plain_at .later [] [.data, .pinned] true (true, "2888cd0fc36e0f435765a5262e62ac1b76a6a8805d490777367180d707f59a15") false fnCaches_holds (fun _ h => by cases h) (by kernel_rfl) (fun _ h => by cases h) fnCaches_row_tie rfl ⟨rfl, rfl⟩ (by kernel_rfl) rfl
    (fun f fn hf hfn => by
      obtain rfl : f = 4 := Option.some.inj ((show Tryd.prog.funcNamed "loop.example/g00586/laws.FnCaches" = some 4 by kernel_rfl).symm.trans hf) |>.symm
      obtain rfl : fn = Tryd.f4 := (Option.some.inj (Tryd.func4.symm.trans hfn)).symm
      exact ⟨by kernel_rfl, fun j t ht => by
        have ht' : (#[22] : Array TypeId)[j]? = some t := ht
        have hm : t ∈ [22] := by simpa using Array.mem_of_getElem? ht'
        have hall : ([22].all fun u => !Tryd.prog.wantsStandIn u) = true := by kernel_rfl
        exact (show Tryd.prog.wantsStandIn t = false by simpa using List.all_eq_true.1 hall t hm)⟩)
    (by kernel_rfl)

end Go.Proofs.YtbbcmlpmpgjhlaaDoor
