/- The law FnExactKeepAnswer: for every input it returns true, and the input reads as it did. No conditions. -/
import Derived.Test.YtppjnohcfljmoaaGreatDoorW
import Derived.Test.YtppjnohcfljmoaaGreatDoorOp
import Derived.Test.YtppjnohcfljmoaaGreatDoorTie
import Derived.Test.YtppjnohcfljmoaaGreatDoorCards
import Derived.LaidSub
import Derived.Lib.LaidTab
namespace Go.Proofs.YtppjnohcfljmoaaGreatDoor
open Go Go.RowKit Go.ChangeShapes Go.WideShapes Go.ChangeAt Go.Sw

set_option maxRecDepth 100000 in
theorem fnExactKeepAnswer_lifted (os : Os) (started : os.Started) (H : Type) (enc : TypeId × Value → H) :
    ReturnsInHanded {} Tryz.checked os 9 .any (fun w args => (Rows.fnExactKeepAnswerSpec.pre enc Tryz.prog Tryz.f9 Rows.fnExactKeepAnswerRow.domain false w args ∧ laidMetH Tryz.prog Rows.fnExactKeepAnswerRow.laid w) ∧ sizedMet enc Tryz.prog Tryz.f9 (OpenSpec.ofChange Rows.fnExactKeepAnswerSpec) false w args)
      (Rows.fnExactKeepAnswerSpec.post enc Tryz.prog Tryz.f9 false true false false) := by
  refine law_laid (C := Tryz.checked) (fn := Tryz.f9) (tb := 4) (laid := Rows.fnExactKeepAnswerRow.laid) own_ started (by kernel_rfl) Tryz.func9
    (ChangeSpec.witness_shaped (enc := enc) (C := Tryz.checked) (os := os) (X := fun w _ => laidMetH Tryz.prog Rows.fnExactKeepAnswerRow.laid w) false (World.laidAll Tryz.prog os Rows.fnExactKeepAnswerRow.laid) #[.agg #[.slice none 0 0, .slice none 0 0, .slice none 0 0, .int .i64 0], .string ⟨#[]⟩, .agg #[.string ⟨#[]⟩, .string ⟨#[]⟩], .agg #[.int .i64 0, .int .i64 0, .string ⟨#[]⟩, .int .i64 0, .bool false, .string ⟨#[]⟩]] 12 (World.laidAll_os _ _ _)
      (World.shaped_of_ZipB (by kernel_rfl) (by kernel_rfl)) (by kernel_rfl) (by kernel_rfl) (by kernel_rfl)
      (by rw [MakeChecks.laidMetH_plain _ _ _ (by kernel_rfl)]; exact laidMet_laidAll _ (by kernel_rfl) (by kernel_rfl))) rfl rfl (by kernel_rfl) laidOut_ (by kernel_rfl) ?_ ?_
  · intro ds hds
    match ds, hds with
    | [d0, d1, d2, d3], _ => rfl
  · intro W base args ds ps hval0 hA0 hX hS
    have hm_ := maxlen_ W hS
    have hval : ∀ (j : Nat) t v, Tryz.f9.params[j]? = some t → args[j]? = some v → Value.okWide Tryz.prog W .any base t v := hval0
    have hA : DataW.TrodAll enc Tryz.prog W 0 (fun _ => true) true [28, 9, 30, 58] args.toList ds ps := hA0
    clear hA0 hval0
    obtain ⟨v0, v1, v2, v3, d0, d1, d2, d3, p0, p1, p2, p3, rfl, rfl, rfl, h0, h1, h2, h3⟩ := trodAll_four hA
    obtain ⟨x0, rfl, k0⟩ := openV_struct (by kernel_rfl) opens28 (hval 0 28 v0 rfl rfl) h0
    obtain ⟨x1, rfl, k1⟩ := openV_str (by kernel_rfl) (hval 1 9 v1 rfl rfl) h1
    obtain ⟨x2, rfl, k2⟩ := openV_struct (by kernel_rfl) opens30 (hval 2 30 v2 rfl rfl) h2
    obtain ⟨x3, rfl, k3⟩ := openV_struct (by kernel_rfl) opens58 (hval 3 58 v3 rfl rfl) h3
    exact c_laws_FnExactKeepAnswer x0 x1 x2 x3 W k0 k1 k2 k3 hm_

set_option maxHeartbeats 4000000 in
theorem fnExactKeepAnswer_closed : joinedFacts Tryz.prog 9 Tryz.f9 Rows.fnExactKeepAnswerSpec Rows.fnExactKeepAnswerRow = true := by
  simp only [joinedFacts, Bool.and_eq_true]
  repeat' apply And.intro
  all_goals (as_aux_lemma => kernel_rfl)

set_option maxHeartbeats 4000000 in
theorem fnExactKeepAnswer_holds : Rows.FnExactKeepAnswerSaid :=
  OpenClaim.holds_of_wide 9 Tryz.f9 rfl rfl rfl rfl rfl rfl rfl ⟨rfl, rfl, rfl, rfl, rfl⟩ rfl rfl rfl rfl rfl (by as_aux_lemma => kernel_rfl) Tryz.func9 fnExactKeepAnswer_closed
    (of_decide_eq_true (by as_aux_lemma => kernel_rfl)) (by unfold Func.isWrapper; rw [if_neg (of_decide_eq_false (by as_aux_lemma => kernel_rfl))]; exact ⟨rfl, rfl⟩)
    (fun os started H enc _ => fnExactKeepAnswer_lifted os started H enc)

set_option maxHeartbeats 4000000 in
theorem fnExactKeepAnswer_card : Rows.FnExactKeepAnswerCardSaid :=
  Claim7.holds_tied_plain_at .later [] [.data, .pinned] true (true, "a6362bb399f77291f5115388f8aa3aa6779984d36cb72e9aa00a05d2e410f96e") true fnExactKeepAnswer_holds (fun _ h => by cases h) (by as_aux_lemma => kernel_rfl) (fun _ h => by cases h) fnExactKeepAnswer_row_tie rfl ⟨rfl, rfl⟩ (by as_aux_lemma => kernel_rfl) rfl
    (fun f fn hf hfn => by
      obtain rfl : f = 9 := Option.some.inj ((show Tryz.prog.funcNamed "loop.example/g00586/laws.FnExactKeepAnswer" = some 9 by as_aux_lemma => kernel_rfl).symm.trans hf) |>.symm
      obtain rfl : fn = Tryz.f9 := (Option.some.inj (Tryz.func9.symm.trans hfn)).symm
      exact ⟨by as_aux_lemma => kernel_rfl, fun j t ht => by
        have ht' : (#[28, 9, 30, 58] : Array TypeId)[j]? = some t := ht
        have hm : t ∈ [28, 9, 30, 58] := by simpa using Array.mem_of_getElem? ht'
        have hall : ([28, 9, 30, 58].all fun u => !Tryz.prog.wantsStandIn u) = true := by as_aux_lemma => kernel_rfl
        exact (show Tryz.prog.wantsStandIn t = false by simpa using List.all_eq_true.1 hall t hm)⟩)
    (by as_aux_lemma => kernel_rfl)

end Go.Proofs.YtppjnohcfljmoaaGreatDoor
