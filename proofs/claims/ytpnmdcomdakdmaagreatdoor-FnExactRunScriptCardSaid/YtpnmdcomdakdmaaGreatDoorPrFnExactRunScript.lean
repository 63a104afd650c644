/- The law FnExactRunScript: for every input it returns true, and the input reads as it did. No conditions. -/
import Derived.Test.YtpnmdcomdakdmaaGreatDoorW
import Derived.Test.YtpnmdcomdakdmaaGreatDoorOp
import Derived.Test.YtpnmdcomdakdmaaGreatDoorTie
import Derived.Test.YtpnmdcomdakdmaaGreatDoorCards
import Derived.LaidSub
import Derived.Lib.LaidTab
namespace Go.Proofs.YtpnmdcomdakdmaaGreatDoor
open Go Go.RowKit Go.ChangeShapes Go.WideShapes Go.ChangeAt Go.Sw

theorem fnExactRunScript_tab (w : World) (h : laidMetH Tryz.prog Rows.fnExactRunScriptRow.laid w) : Tab10 Tryz.prog w := by
  have h1 := h.filter (fun x => x.1 == "internal/strconv.uint64pow10")
  have e : Rows.fnExactRunScriptRow.laid.filter (fun x => x.1 == "internal/strconv.uint64pow10") = [("internal/strconv.uint64pow10", Lib.tabData .u64 Lib.pow10Tab)] := by kernel_rfl
  rw [e, MakeChecks.laidMetH_plain _ _ _ (by kernel_rfl)] at h1
  exact Lib.tabIs_of_head (g := 5) (t := 405) (e := 285) (n := 20) (by kernel_rfl) (by kernel_rfl) (by kernel_rfl) (by kernel_rfl) (by kernel_rfl) (by kernel_rfl) h1

set_option maxRecDepth 100000 in
theorem fnExactRunScript_lifted (os : Os) (started : os.Started) (H : Type) (enc : TypeId × Value → H) :
    ReturnsInHanded {} Tryz.checked os 9 .any (fun w args => (Rows.fnExactRunScriptSpec.pre enc Tryz.prog Tryz.f9 Rows.fnExactRunScriptRow.domain false w args ∧ laidMetH Tryz.prog Rows.fnExactRunScriptRow.laid w) ∧ sizedMet enc Tryz.prog Tryz.f9 (OpenSpec.ofChange Rows.fnExactRunScriptSpec) false w args)
      (Rows.fnExactRunScriptSpec.post enc Tryz.prog Tryz.f9 false true false false) := by
  refine law_laid (C := Tryz.checked) (fn := Tryz.f9) (tb := 4) (laid := Rows.fnExactRunScriptRow.laid) own_ started (by kernel_rfl) Tryz.func9
    (ChangeSpec.witness_shaped (enc := enc) (C := Tryz.checked) (os := os) (X := fun w _ => laidMetH Tryz.prog Rows.fnExactRunScriptRow.laid w) false (World.laidAll Tryz.prog os Rows.fnExactRunScriptRow.laid) #[.agg #[.slice none 0 0, .slice none 0 0], .slice none 0 0, .slice none 0 0] 12 (World.laidAll_os _ _ _)
      (World.shaped_of_ZipB (by kernel_rfl) (by kernel_rfl)) (by kernel_rfl) (by kernel_rfl) (by kernel_rfl)
      (by rw [MakeChecks.laidMetH_plain _ _ _ (by kernel_rfl)]; exact laidMet_laidAll _ (by kernel_rfl) (by kernel_rfl))) rfl rfl (by kernel_rfl) laidOut_ (by kernel_rfl) ?_ ?_
  · intro ds hds
    match ds, hds with
    | [d0, d1, d2], _ => rfl
  · intro W base args ds ps hval0 hA0 hX hS
    have ht_ := fnExactRunScript_tab W hX
    have hval : ∀ (j : Nat) t v, Tryz.f9.params[j]? = some t → args[j]? = some v → Value.okWide Tryz.prog W .any base t v := hval0
    have hA : DataW.TrodAll enc Tryz.prog W 0 (fun _ => true) true [95, 96, 126] args.toList ds ps := hA0
    clear hA0 hval0
    obtain ⟨v0, v1, v2, d0, d1, d2, p0, p1, p2, rfl, rfl, rfl, h0, h1, h2⟩ := trodAll_three hA
    obtain ⟨x0, rfl, k0⟩ := openV_struct (by kernel_rfl) opens95 (hval 0 95 v0 rfl rfl) h0
    obtain ⟨x1, rfl, k1⟩ := openV_slice (el := 188) (by kernel_rfl) opens96 (hval 1 96 v1 rfl rfl) h1
    obtain ⟨x2, rfl, k2⟩ := openV_slice (el := 97) (by kernel_rfl) opens126 (hval 2 126 v2 rfl rfl) h2
    exact c_laws_FnExactRunScript x0 x1 x2 W k0 k1 k2 ht_

set_option maxHeartbeats 4000000 in
theorem fnExactRunScript_closed : joinedFacts Tryz.prog 9 Tryz.f9 Rows.fnExactRunScriptSpec Rows.fnExactRunScriptRow = true := by
  simp only [joinedFacts, Bool.and_eq_true]
  repeat' apply And.intro
  all_goals (as_aux_lemma => kernel_rfl)

set_option maxHeartbeats 4000000 in
theorem fnExactRunScript_holds : Rows.FnExactRunScriptSaid :=
  OpenClaim.holds_of_wide 9 Tryz.f9 rfl rfl rfl rfl rfl rfl rfl ⟨rfl, rfl, rfl, rfl, rfl⟩ rfl rfl rfl rfl rfl (by as_aux_lemma => kernel_rfl) Tryz.func9 fnExactRunScript_closed
    (of_decide_eq_true (by as_aux_lemma => kernel_rfl)) (by unfold Func.isWrapper; rw [if_neg (of_decide_eq_false (by as_aux_lemma => kernel_rfl))]; exact ⟨rfl, rfl⟩)
    (fun os started H enc _ => fnExactRunScript_lifted os started H enc)

set_option maxHeartbeats 4000000 in
theorem fnExactRunScript_card : Rows.FnExactRunScriptCardSaid :=
  Claim7.holds_tied_plain_at .later [] [.data, .data, .data] true (true, "b613ab6c39c62cbed9d10fced0d5b137fc01e35eebbc597086d07d6d7a0420c0") true fnExactRunScript_holds (fun _ h => by cases h) (by as_aux_lemma => kernel_rfl) (fun _ h => by cases h) fnExactRunScript_row_tie rfl ⟨rfl, rfl⟩ (by as_aux_lemma => kernel_rfl) rfl
    (fun f fn hf hfn => by
      obtain rfl : f = 9 := Option.some.inj ((show Tryz.prog.funcNamed "loop.example/g00586/laws.FnExactRunScript" = some 9 by as_aux_lemma => kernel_rfl).symm.trans hf) |>.symm
      obtain rfl : fn = Tryz.f9 := (Option.some.inj (Tryz.func9.symm.trans hfn)).symm
      exact ⟨by as_aux_lemma => kernel_rfl, fun j t ht => by
        have ht' : (#[95, 96, 126] : Array TypeId)[j]? = some t := ht
        have hm : t ∈ [95, 96, 126] := by simpa using Array.mem_of_getElem? ht'
        have hall : ([95, 96, 126].all fun u => !Tryz.prog.wantsStandIn u) = true := by as_aux_lemma => kernel_rfl
        exact (show Tryz.prog.wantsStandIn t = false by simpa using List.all_eq_true.1 hall t hm)⟩)
    (by as_aux_lemma => kernel_rfl)

end Go.Proofs.YtpnmdcomdakdmaaGreatDoor
