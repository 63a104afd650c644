/- The law FnExactAreServers: for every input it returns true, and the input reads as it did. No conditions. -/
import Derived.Test.YtoffmddkjddioaaDoorW
import Derived.Test.YtoffmddkjddioaaDoorOp
import Derived.Test.YtoffmddkjddioaaDoorTie
import Derived.Test.YtoffmddkjddioaaDoorCards
namespace Go.Proofs.YtoffmddkjddioaaDoor
open Go Go.RowKit Go.ChangeShapes Go.WideShapes Go.ChangeAt Go.Sw

set_option maxRecDepth 100000 in
theorem fnExactAreServers_lifted (os : Os) (started : os.Started) (H : Type) (enc : TypeId × Value → H) :
    ReturnsInHanded {} Tryd.checked os 8 .any (fun w args => (Rows.fnExactAreServersSpec.pre enc Tryd.prog Tryd.f8 Rows.fnExactAreServersRow.domain false w args ∧ laidMetH Tryd.prog Rows.fnExactAreServersRow.laid w) ∧ sizedMet enc Tryd.prog Tryd.f8 (OpenSpec.ofChange Rows.fnExactAreServersSpec) false w args)
      (Rows.fnExactAreServersSpec.post enc Tryd.prog Tryd.f8 false true false false) := by
  refine law_laid (C := Tryd.checked) (fn := Tryd.f8) (tb := 4) (laid := Rows.fnExactAreServersRow.laid) own_ started (by kernel_rfl) Tryd.func8
    (ChangeSpec.witness_shaped (enc := enc) (C := Tryd.checked) (os := os) (X := fun w _ => laidMetH Tryd.prog Rows.fnExactAreServersRow.laid w) false (World.laidAll Tryd.prog os Rows.fnExactAreServersRow.laid) #[.slice none 0 0] 12 (World.laidAll_os _ _ _)
      (World.shaped_of_ZipB (by kernel_rfl) (by kernel_rfl)) (by kernel_rfl) (by kernel_rfl) (by kernel_rfl)
      (by rw [MakeChecks.laidMetH_plain _ _ _ (by kernel_rfl)]; exact laidMet_laidAll _ (by kernel_rfl) (by kernel_rfl))) rfl rfl (by kernel_rfl) laidOut_ (by kernel_rfl) ?_ ?_
  · intro ds hds
    match ds, hds with
    | [d0], _ => rfl
  · intro W base args ds ps hval0 hA0 hX hS
    have hm_ := maxlen_ W hS
    have hval : ∀ (j : Nat) t v, Tryd.f8.params[j]? = some t → args[j]? = some v → Value.okWide Tryd.prog W .any base t v := hval0
    have hA : DataW.TrodAll enc Tryd.prog W 0 (fun _ => true) true [64] args.toList ds ps := hA0
    clear hA0 hval0
    obtain ⟨v0, d0, rfl, rfl, h0⟩ := trodAll_one hA
    obtain ⟨x0, rfl, k0⟩ := openV_slice (el := 44) (by kernel_rfl) opens64 (hval 0 64 v0 rfl rfl) h0
    exact c_laws_FnExactAreServers x0 W k0 hm_

theorem fnExactAreServers_holds : Rows.FnExactAreServersSaid :=
  OpenClaim.holds_of_wide 8 Tryd.f8 rfl rfl rfl rfl rfl rfl rfl ⟨rfl, rfl, rfl, rfl, rfl⟩ rfl rfl rfl rfl rfl (by kernel_rfl) Tryd.func8 (by kernel_rfl)
    (of_decide_eq_true (by kernel_rfl)) (by unfold Func.isWrapper; rw [if_neg (of_decide_eq_false (by kernel_rfl))]; exact ⟨rfl, rfl⟩)
    (fun os started H enc _ => fnExactAreServers_lifted os started H enc)

theorem fnExactAreServers_card : Rows.FnExactAreServersCardSaid :=
  Claim7.holds_tied_plain_at .later [] [.data, .pinned] true (true, "ccda7bd4b4e1fac4a412b8dbf0afc639f6604b09e364eca12f0f331d6e54901f") false fnExactAreServers_holds (fun _ h => by cases h) (by kernel_rfl) (fun _ h => by cases h) fnExactAreServers_row_tie rfl ⟨rfl, rfl⟩ (by kernel_rfl) rfl
    (fun f fn hf hfn => by
      obtain rfl : f = 8 := Option.some.inj ((show Tryd.prog.funcNamed "loop.example/g00586/laws.FnExactAreServers" = some 8 by kernel_rfl).symm.trans hf) |>.symm
      obtain rfl : fn = Tryd.f8 := (Option.some.inj (Tryd.func8.symm.trans hfn)).symm
      exact ⟨by kernel_rfl, fun j t ht => by
        have ht' : (#[64] : Array TypeId)[j]? = some t := ht
        have hm : t ∈ [64] := by simpa using Array.mem_of_getElem? ht'
        have hall : ([64].all fun u => !Tryd.prog.wantsStandIn u) = true := by kernel_rfl
        exact (show Tryd.prog.wantsStandIn t = false by simpa using List.all_eq_true.1 hall t hm)⟩)
    (by kernel_rfl)

end Go.Proofs.YtoffmddkjddioaaDoor
