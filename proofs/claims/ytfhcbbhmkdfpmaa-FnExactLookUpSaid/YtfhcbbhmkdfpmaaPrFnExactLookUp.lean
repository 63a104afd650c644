/- The law FnExactLookUp: for every input it returns true, and the input reads as it did. No conditions. -/
import Derived.Test.YtfhcbbhmkdfpmaaWc
import Derived.Test.YtfhcbbhmkdfpmaaOp
namespace Go.Proofs.Ytfhcbbhmkdfpmaa
open Go Go.RowKit Go.ChangeShapes Go.WideShapes Go.ChangeAt Go.Sw

set_option maxRecDepth 100000 in
theorem fnExactLookUp_lifted (os : Os) (started : os.Started) (H : Type) (enc : TypeId × Value → H) :
    ReturnsInHanded {} Try.checked os 14 .any (Rows.fnExactLookUpSpec.pre6 enc Try.prog Try.f14 Rows.fnExactLookUpRow.domain false) (Rows.fnExactLookUpSpec.post enc Try.prog Try.f14 false true false false) := by
  refine law_lifted (C := Try.checked) (fn := Try.f14) (tb := 4) own_ started (by kernel_rfl) Try.func14
    (ChangeSpec.witness6 (enc := enc) (C := Try.checked) false ⟨#[], #[.agg #[.slice none 0 0], .string ⟨#[]⟩, .agg #[.string ⟨#[]⟩, .string ⟨#[]⟩], .int .i64 0], []⟩ 12 (by kernel_rfl) (by kernel_rfl) (by kernel_rfl) (by kernel_rfl)) rfl rfl (by kernel_rfl) laidOut_ (by kernel_rfl) ?_ ?_
  · intro ds hds
    match ds, hds with
    | [d0, d1, d2, d3], _ => rfl
  · intro W base args ds ps hval0 hA0
    have hval : ∀ (j : Nat) t v, Try.f14.params[j]? = some t → args[j]? = some v → Value.okWide Try.prog W .any base t v := hval0
    have hA : DataW.TrodAll enc Try.prog W 0 (fun _ => true) true [60, 9, 23, 3] args.toList ds ps := hA0
    clear hA0 hval0
    obtain ⟨v0, v1, v2, v3, d0, d1, d2, d3, p0, p1, p2, p3, rfl, rfl, rfl, h0, h1, h2, h3⟩ := trodAll_four hA
    obtain ⟨x0, rfl, k0⟩ := openV_struct (by kernel_rfl) opens60 (hval 0 60 v0 rfl rfl) h0
    obtain ⟨x1, rfl, k1⟩ := openV_str (by kernel_rfl) (hval 1 9 v1 rfl rfl) h1
    obtain ⟨x2, rfl, k2⟩ := openV_struct (by kernel_rfl) opens23 (hval 2 23 v2 rfl rfl) h2
    obtain ⟨x3, rfl, k3⟩ := openV_int (by kernel_rfl) (hval 3 3 v3 rfl rfl) h3
    exact c_laws_FnExactLookUp x0 x1 x2 x3 W k0 k2

theorem fnExactLookUp_holds : Rows.FnExactLookUpSaid :=
  OpenClaim.holds_of_wide 14 Try.f14 rfl rfl rfl rfl rfl rfl rfl ⟨rfl, rfl, rfl, rfl, rfl⟩ rfl rfl rfl rfl rfl (by kernel_rfl) Try.func14 (by kernel_rfl)
    (of_decide_eq_true (by kernel_rfl)) (by unfold Func.isWrapper; rw [if_neg (of_decide_eq_false (by kernel_rfl))]; exact ⟨rfl, rfl⟩)
    (fun os started H enc _ => fnExactLookUp_lifted os started H enc)

end Go.Proofs.Ytfhcbbhmkdfpmaa
