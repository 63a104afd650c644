/- The law FnExactAllows: for every input it returns true, and the input reads as it did. No conditions. -/
import Derived.Test.YtfhcbbhmkdfpmaaWb
import Derived.Test.YtfhcbbhmkdfpmaaOp
namespace Go.Proofs.Ytfhcbbhmkdfpmaa
open Go Go.RowKit Go.ChangeShapes Go.WideShapes Go.ChangeAt Go.Sw

set_option maxRecDepth 100000 in
theorem fnExactAllows_lifted (os : Os) (started : os.Started) (H : Type) (enc : TypeId × Value → H) :
    ReturnsInHanded {} Try.checked os 10 .any (Rows.fnExactAllowsSpec.pre6 enc Try.prog Try.f10 Rows.fnExactAllowsRow.domain false) (Rows.fnExactAllowsSpec.post enc Try.prog Try.f10 false true false false) := by
  refine law_lifted (C := Try.checked) (fn := Try.f10) (tb := 4) own_ started (by kernel_rfl) Try.func10
    (ChangeSpec.witness6 (enc := enc) (C := Try.checked) false ⟨#[], #[.agg #[.bool false, .slice none 0 0, .slice none 0 0, .slice none 0 0, .string ⟨#[]⟩], .int .i64 0, .string ⟨#[]⟩], []⟩ 12 (by kernel_rfl) (by kernel_rfl) (by kernel_rfl) (by kernel_rfl)) rfl rfl (by kernel_rfl) laidOut_ (by kernel_rfl) ?_ ?_
  · intro ds hds
    match ds, hds with
    | [d0, d1, d2], _ => rfl
  · intro W base args ds ps hval0 hA0
    have hval : ∀ (j : Nat) t v, Try.f10.params[j]? = some t → args[j]? = some v → Value.okWide Try.prog W .any base t v := hval0
    have hA : DataW.TrodAll enc Try.prog W 0 (fun _ => true) true [44, 3, 9] args.toList ds ps := hA0
    clear hA0 hval0
    obtain ⟨v0, v1, v2, d0, d1, d2, p0, p1, p2, rfl, rfl, rfl, h0, h1, h2⟩ := trodAll_three hA
    obtain ⟨x0, rfl, k0⟩ := openV_struct (by kernel_rfl) opens44 (hval 0 44 v0 rfl rfl) h0
    obtain ⟨x1, rfl, k1⟩ := openV_int (by kernel_rfl) (hval 1 3 v1 rfl rfl) h1
    obtain ⟨x2, rfl, k2⟩ := openV_str (by kernel_rfl) (hval 2 9 v2 rfl rfl) h2
    exact c_laws_FnExactAllows x0 x1 x2 W k0

theorem fnExactAllows_holds : Rows.FnExactAllowsSaid :=
  OpenClaim.holds_of_wide 10 Try.f10 rfl rfl rfl rfl rfl rfl rfl ⟨rfl, rfl, rfl, rfl, rfl⟩ rfl rfl rfl rfl rfl (by kernel_rfl) Try.func10 (by kernel_rfl)
    (of_decide_eq_true (by kernel_rfl)) (by unfold Func.isWrapper; rw [if_neg (of_decide_eq_false (by kernel_rfl))]; exact ⟨rfl, rfl⟩)
    (fun os started H enc _ => fnExactAllows_lifted os started H enc)

end Go.Proofs.Ytfhcbbhmkdfpmaa
