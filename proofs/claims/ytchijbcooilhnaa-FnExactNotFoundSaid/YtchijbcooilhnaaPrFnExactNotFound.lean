/- The law FnExactNotFound: for every input it returns true, and the input reads as it did. No conditions. -/
import Derived.Test.YtchijbcooilhnaaWa
import Derived.Test.YtchijbcooilhnaaOp
namespace Go.Proofs.Ytchijbcooilhnaa
open Go Go.RowKit Go.ChangeShapes Go.WideShapes Go.ChangeAt Go.Sw

set_option maxRecDepth 100000 in
theorem fnExactNotFound_lifted (os : Os) (started : os.Started) (H : Type) (enc : TypeId × Value → H) :
    ReturnsInHanded {} Try.checked os 6 .any (Rows.fnExactNotFoundSpec.pre6 enc Try.prog Try.f6 Rows.fnExactNotFoundRow.domain false) (Rows.fnExactNotFoundSpec.post enc Try.prog Try.f6 false true false false) := by
  refine law_lifted (C := Try.checked) (fn := Try.f6) (tb := 4) own_ started (by kernel_rfl) Try.func6
    (ChangeSpec.witness6 (enc := enc) (C := Try.checked) false ⟨#[], #[], []⟩ 12 (by kernel_rfl) (by kernel_rfl) (by kernel_rfl) (by kernel_rfl)) rfl rfl (by kernel_rfl) laidOut_ (by kernel_rfl) ?_ ?_
  · intro ds hds
    match ds, hds with
    | [], _ => rfl
  · intro W base args ds ps hval0 hA0
    have hval : ∀ (j : Nat) t v, Try.f6.params[j]? = some t → args[j]? = some v → Value.okWide Try.prog W .any base t v := hval0
    have hA : DataW.TrodAll enc Try.prog W 0 (fun _ => true) true [] args.toList ds ps := hA0
    clear hA0 hval0
    obtain ⟨rfl, rfl, rfl⟩ := trodAll_none hA
    exact c_laws_FnExactNotFound  W 

theorem fnExactNotFound_holds : Rows.FnExactNotFoundSaid :=
  OpenClaim.holds_of_wide 6 Try.f6 rfl rfl rfl rfl rfl rfl rfl ⟨rfl, rfl, rfl, rfl, rfl⟩ rfl rfl rfl rfl rfl (by kernel_rfl) Try.func6 (by kernel_rfl)
    (of_decide_eq_true (by kernel_rfl)) (by unfold Func.isWrapper; rw [if_neg (of_decide_eq_false (by kernel_rfl))]; exact ⟨rfl, rfl⟩)
    (fun os started H enc _ => fnExactNotFound_lifted os started H enc)

end Go.Proofs.Ytchijbcooilhnaa
