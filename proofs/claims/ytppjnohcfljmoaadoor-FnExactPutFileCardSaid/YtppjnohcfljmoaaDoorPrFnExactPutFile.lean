/- The law FnExactPutFile: for every input it returns true, and the input reads as it did. No conditions. -/
import Derived.Test.YtppjnohcfljmoaaDoorW
import Derived.Test.YtppjnohcfljmoaaDoorOp
import Derived.Test.YtppjnohcfljmoaaDoorTie
import Derived.Test.YtppjnohcfljmoaaDoorCards
import Derived.LaidSub
import Derived.Lib.LaidTab
namespace Go.Proofs.YtppjnohcfljmoaaDoor
open Go Go.RowKit Go.ChangeShapes Go.WideShapes Go.ChangeAt Go.Sw

set_option maxRecDepth 100000 in
theorem fnExactPutFile_lifted (os : Os) (started : os.Started) (H : Type) (enc : TypeId × Value → H) :
    ReturnsInHanded {} Tryd.checked os 4 .any (fun w args => (Rows.fnExactPutFileSpec.pre enc Tryd.prog Tryd.f4 Rows.fnExactPutFileRow.domain false w args ∧ laidMetH Tryd.prog Rows.fnExactPutFileRow.laid w) ∧ sizedMet enc Tryd.prog Tryd.f4 (OpenSpec.ofChange Rows.fnExactPutFileSpec) false w args)
      (Rows.fnExactPutFileSpec.post enc Tryd.prog Tryd.f4 false true false false) := by
  refine law_laid (C := Tryd.checked) (fn := Tryd.f4) (tb := 4) (laid := Rows.fnExactPutFileRow.laid) own_ started (by kernel_rfl) Tryd.func4
    (ChangeSpec.witness_shaped (enc := enc) (C := Tryd.checked) (os := os) (X := fun w _ => laidMetH Tryd.prog Rows.fnExactPutFileRow.laid w) false (World.laidAll Tryd.prog os Rows.fnExactPutFileRow.laid) #[.slice none 0 0, .agg #[.string ⟨#[]⟩, .string ⟨#[]⟩], .agg #[.int .i64 0, .int .i64 0, .string ⟨#[]⟩, .int .i64 0, .bool false, .string ⟨#[]⟩]] 12 (World.laidAll_os _ _ _)
      (World.shaped_of_ZipB (by kernel_rfl) (by kernel_rfl)) (by kernel_rfl) (by kernel_rfl) (by kernel_rfl)
      (by rw [MakeChecks.laidMetH_plain _ _ _ (by kernel_rfl)]; exact laidMet_laidAll _ (by kernel_rfl) (by kernel_rfl))) rfl rfl (by kernel_rfl) laidOut_ (by kernel_rfl) ?_ ?_
  · intro ds hds
    match ds, hds with
    | [d0, d1, d2], _ => rfl
  · intro W base args ds ps hval0 hA0 hX hS
    have hm_ := maxlen_ W hS
    have hval : ∀ (j : Nat) t v, Tryd.f4.params[j]? = some t → args[j]? = some v → Value.okWide Tryd.prog W .any base t v := hval0
    have hA : DataW.TrodAll enc Tryd.prog W 0 (fun _ => true) true [23, 25, 27] args.toList ds ps := hA0
    clear hA0 hval0
    obtain ⟨v0, v1, v2, d0, d1, d2, p0, p1, p2, rfl, rfl, rfl, h0, h1, h2⟩ := trodAll_three hA
    obtain ⟨x0, rfl, k0⟩ := openV_slice (el := 47) (by kernel_rfl) opens23 (hval 0 23 v0 rfl rfl) h0
    obtain ⟨x1, rfl, k1⟩ := openV_struct (by kernel_rfl) opens25 (hval 1 25 v1 rfl rfl) h1
    obtain ⟨x2, rfl, k2⟩ := openV_struct (by kernel_rfl) opens27 (hval 2 27 v2 rfl rfl) h2
    exact c_laws_FnExactPutFile x0 x1 x2 W k0 k1 k2 hm_

theorem fnExactPutFile_holds : Rows.FnExactPutFileSaid :=
  OpenClaim.holds_of_wide 4 Tryd.f4 rfl rfl rfl rfl rfl rfl rfl ⟨rfl, rfl, rfl, rfl, rfl⟩ rfl rfl rfl rfl rfl (by kernel_rfl) Tryd.func4 (by kernel_rfl)
    (of_decide_eq_true (by kernel_rfl)) (by unfold Func.isWrapper; rw [if_neg (of_decide_eq_false (by kernel_rfl))]; exact ⟨rfl, rfl⟩)
    (fun os started H enc _ => fnExactPutFile_lifted os started H enc)

theorem fnExactPutFile_card : Rows.FnExactPutFileCardSaid :=
  Claim7.holds_tied_plain_at .later [] [.data, .pinned] true (true, "890f2b9fd8153e8ce6089a04a466b87f440fa4b7e4195fab0d1d61bfbdc64df4") false fnExactPutFile_holds (fun _ h => by cases h) (by kernel_rfl) (fun _ h => by cases h) fnExactPutFile_row_tie rfl ⟨rfl, rfl⟩ (by kernel_rfl) rfl
    (fun f fn hf hfn => by
      obtain rfl : f = 4 := Option.some.inj ((show Tryd.prog.funcNamed "loop.example/g00586/laws.FnExactPutFile" = some 4 by kernel_rfl).symm.trans hf) |>.symm
      obtain rfl : fn = Tryd.f4 := (Option.some.inj (Tryd.func4.symm.trans hfn)).symm
      exact ⟨by kernel_rfl, fun j t ht => by
        have ht' : (#[23, 25, 27] : Array TypeId)[j]? = some t := ht
        have hm : t ∈ [23, 25, 27] := by simpa using Array.mem_of_getElem? ht'
        have hall : ([23, 25, 27].all fun u => !Tryd.prog.wantsStandIn u) = true := by kernel_rfl
        exact (show Tryd.prog.wantsStandIn t = false by simpa using List.all_eq_true.1 hall t hm)⟩)
    (by kernel_rfl)

end Go.Proofs.YtppjnohcfljmoaaDoor
