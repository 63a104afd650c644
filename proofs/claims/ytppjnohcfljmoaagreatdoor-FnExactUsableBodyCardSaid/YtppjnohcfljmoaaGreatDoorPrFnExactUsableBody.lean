/- The law FnExactUsableBody: for every input it returns true, and the input reads as it did. No conditions. -/
import Derived.Test.YtppjnohcfljmoaaGreatDoorW
import Derived.Test.YtppjnohcfljmoaaGreatDoorOp
import Derived.Test.YtppjnohcfljmoaaGreatDoorTie
import Derived.Test.YtppjnohcfljmoaaGreatDoorCards
import Derived.LaidSub
import Derived.Lib.LaidTab
namespace Go.Proofs.YtppjnohcfljmoaaGreatDoor
open Go Go.RowKit Go.ChangeShapes Go.WideShapes Go.ChangeAt Go.Sw

theorem fnExactUsableBody_tab (w : World) (h : laidMetH Tryz.prog Rows.fnExactUsableBodyRow.laid w) : Tab10 Tryz.prog w := by
  have h1 := h.filter (fun x => x.1 == "internal/strconv.uint64pow10")
  have e : Rows.fnExactUsableBodyRow.laid.filter (fun x => x.1 == "internal/strconv.uint64pow10") = [("internal/strconv.uint64pow10", Lib.tabData .u64 Lib.pow10Tab)] := by kernel_rfl
  rw [e, MakeChecks.laidMetH_plain _ _ _ (by kernel_rfl)] at h1
  exact Lib.tabIs_of_head (g := 0) (t := 341) (e := 315) (n := 20) (by kernel_rfl) (by kernel_rfl) (by kernel_rfl) (by kernel_rfl) (by kernel_rfl) (by kernel_rfl) h1

set_option maxRecDepth 100000 in
theorem fnExactUsableBody_lifted (os : Os) (started : os.Started) (H : Type) (enc : TypeId × Value → H) :
    ReturnsInHanded {} Tryz.checked os 6 .any (fun w args => (Rows.fnExactUsableBodySpec.pre enc Tryz.prog Tryz.f6 Rows.fnExactUsableBodyRow.domain false w args ∧ laidMetH Tryz.prog Rows.fnExactUsableBodyRow.laid w) ∧ sizedMet enc Tryz.prog Tryz.f6 (OpenSpec.ofChange Rows.fnExactUsableBodySpec) false w args)
      (Rows.fnExactUsableBodySpec.post enc Tryz.prog Tryz.f6 false true false false) := by
  refine law_laid (C := Tryz.checked) (fn := Tryz.f6) (tb := 4) (laid := Rows.fnExactUsableBodyRow.laid) own_ started (by kernel_rfl) Tryz.func6
    (ChangeSpec.witness_shaped (enc := enc) (C := Tryz.checked) (os := os) (X := fun w _ => laidMetH Tryz.prog Rows.fnExactUsableBodyRow.laid w) false (World.laidAll Tryz.prog os Rows.fnExactUsableBodyRow.laid) #[.agg #[.bool false, .slice none 0 0, .slice none 0 0, .slice none 0 0, .string ⟨#[]⟩], .agg #[.int .i64 0, .string ⟨#[]⟩, .string ⟨#[]⟩, .string ⟨#[]⟩, .string ⟨#[]⟩], .agg #[.int .i64 0, .int .i64 0, .string ⟨#[]⟩, .int .i64 0, .bool false, .string ⟨#[]⟩]] 12 (World.laidAll_os _ _ _)
      (World.shaped_of_ZipB (by kernel_rfl) (by kernel_rfl)) (by kernel_rfl) (by kernel_rfl) (by kernel_rfl)
      (by rw [MakeChecks.laidMetH_plain _ _ _ (by kernel_rfl)]; exact laidMet_laidAll _ (by kernel_rfl) (by kernel_rfl))) rfl rfl (by kernel_rfl) laidOut_ (by kernel_rfl) ?_ ?_
  · intro ds hds
    match ds, hds with
    | [d0, d1, d2], _ => rfl
  · intro W base args ds ps hval0 hA0 hX hS
    have hm_ := maxlen_ W hS
    have ht_ := fnExactUsableBody_tab W hX
    have hval : ∀ (j : Nat) t v, Tryz.f6.params[j]? = some t → args[j]? = some v → Value.okWide Tryz.prog W .any base t v := hval0
    have hA : DataW.TrodAll enc Tryz.prog W 0 (fun _ => true) true [55, 57, 58] args.toList ds ps := hA0
    clear hA0 hval0
    obtain ⟨v0, v1, v2, d0, d1, d2, p0, p1, p2, rfl, rfl, rfl, h0, h1, h2⟩ := trodAll_three hA
    obtain ⟨x0, rfl, k0⟩ := openV_struct (by kernel_rfl) opens55 (hval 0 55 v0 rfl rfl) h0
    obtain ⟨x1, rfl, k1⟩ := openV_struct (by kernel_rfl) opens57 (hval 1 57 v1 rfl rfl) h1
    obtain ⟨x2, rfl, k2⟩ := openV_struct (by kernel_rfl) opens58 (hval 2 58 v2 rfl rfl) h2
    exact c_laws_FnExactUsableBody x0 x1 x2 W k0 k1 k2 hm_ ht_

set_option maxHeartbeats 4000000 in
theorem fnExactUsableBody_closed : joinedFacts Tryz.prog 6 Tryz.f6 Rows.fnExactUsableBodySpec Rows.fnExactUsableBodyRow = true := by
  simp only [joinedFacts, Bool.and_eq_true]
  repeat' apply And.intro
  all_goals (as_aux_lemma => kernel_rfl)

set_option maxHeartbeats 4000000 in
theorem fnExactUsableBody_holds : Rows.FnExactUsableBodySaid :=
  OpenClaim.holds_of_wide 6 Tryz.f6 rfl rfl rfl rfl rfl rfl rfl ⟨rfl, rfl, rfl, rfl, rfl⟩ rfl rfl rfl rfl rfl (by as_aux_lemma => kernel_rfl) Tryz.func6 fnExactUsableBody_closed
    (of_decide_eq_true (by as_aux_lemma => kernel_rfl)) (by unfold Func.isWrapper; rw [if_neg (of_decide_eq_false (by as_aux_lemma => kernel_rfl))]; exact ⟨rfl, rfl⟩)
    (fun os started H enc _ => fnExactUsableBody_lifted os started H enc)

set_option maxHeartbeats 4000000 in
theorem fnExactUsableBody_card : Rows.FnExactUsableBodyCardSaid :=
  Claim7.holds_tied_plain_at .later [] [.data, .data, .data, .data, .pinned] true (true, "a6362bb399f77291f5115388f8aa3aa6779984d36cb72e9aa00a05d2e410f96e") true fnExactUsableBody_holds (fun _ h => by cases h) (by as_aux_lemma => kernel_rfl) (fun _ h => by cases h) fnExactUsableBody_row_tie rfl ⟨rfl, rfl⟩ (by as_aux_lemma => kernel_rfl) rfl
    (fun f fn hf hfn => by
      obtain rfl : f = 6 := Option.some.inj ((show Tryz.prog.funcNamed "loop.example/g00586/laws.FnExactUsableBody" = some 6 by as_aux_lemma => kernel_rfl).symm.trans hf) |>.symm
      obtain rfl : fn = Tryz.f6 := (Option.some.inj (Tryz.func6.symm.trans hfn)).symm
      exact ⟨by as_aux_lemma => kernel_rfl, fun j t ht => by
        have ht' : (#[55, 57, 58] : Array TypeId)[j]? = some t := ht
        have hm : t ∈ [55, 57, 58] := by simpa using Array.mem_of_getElem? ht'
        have hall : ([55, 57, 58].all fun u => !Tryz.prog.wantsStandIn u) = true := by as_aux_lemma => kernel_rfl
        exact (show Tryz.prog.wantsStandIn t = false by simpa using List.all_eq_true.1 hall t hm)⟩)
    (by as_aux_lemma => kernel_rfl)

end Go.Proofs.YtppjnohcfljmoaaGreatDoor
