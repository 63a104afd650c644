/- The law FnExactSlotRequest: for every input it returns true, and the input reads as it did. No conditions. -/
import Derived.Test.YtfjojpmfoingpaaWb
import Derived.Test.YtfjojpmfoingpaaOp
namespace Go.Proofs.Ytfjojpmfoingpaa
open Go Go.RowKit Go.ChangeShapes Go.WideShapes Go.ChangeAt Go.Sw

set_option maxRecDepth 100000 in
theorem fnExactSlotRequest_lifted (os : Os) (started : os.Started) (H : Type) (enc : TypeId × Value → H) :
    ReturnsInHanded {} Try.checked os 12 .any (Rows.fnExactSlotRequestSpec.pre6 enc Try.prog Try.f12 Rows.fnExactSlotRequestRow.domain false) (Rows.fnExactSlotRequestSpec.post enc Try.prog Try.f12 false true false false) := by
  refine law_lifted (C := Try.checked) (fn := Try.f12) (tb := 4) own_ started (by kernel_rfl) Try.func12
    (ChangeSpec.witness6 (enc := enc) (C := Try.checked) false ⟨#[], #[.agg #[.string ⟨#[]⟩, .string ⟨#[]⟩, .bool false, .slice none 0 0, .slice none 0 0, .slice none 0 0, .string ⟨#[]⟩, .string ⟨#[]⟩, .slice none 0 0, .bool false, .slice none 0 0, .slice none 0 0, .slice none 0 0, .slice none 0 0, .slice none 0 0, .int .i64 0, .int .i64 0, .int .i64 0, .int .i64 0, .slice none 0 0, .slice none 0 0, .bool false], .int .i64 0], []⟩ 12 (by kernel_rfl) (by kernel_rfl) (by kernel_rfl) (by kernel_rfl)) rfl rfl (by kernel_rfl) laidOut_ (by kernel_rfl) ?_ ?_
  · intro ds hds
    match ds, hds with
    | [d0, d1], _ => rfl
  · intro W base args ds ps hval0 hA0
    have hval : ∀ (j : Nat) t v, Try.f12.params[j]? = some t → args[j]? = some v → Value.okWide Try.prog W .any base t v := hval0
    have hA : DataW.TrodAll enc Try.prog W 0 (fun _ => true) true [96, 3] args.toList ds ps := hA0
    clear hA0 hval0
    obtain ⟨v0, v1, d0, d1, p0, p1, rfl, rfl, rfl, h0, h1⟩ := trodAll_two hA
    obtain ⟨x0, rfl, k0⟩ := openV_struct (by kernel_rfl) opens96 (hval 0 96 v0 rfl rfl) h0
    obtain ⟨x1, rfl, k1⟩ := openV_int (by kernel_rfl) (hval 1 3 v1 rfl rfl) h1
    exact c_laws_FnExactSlotRequest x0 x1 W k0 k1

theorem fnExactSlotRequest_holds : Rows.FnExactSlotRequestSaid :=
  OpenClaim.holds_of_wide 12 Try.f12 rfl rfl rfl rfl rfl rfl rfl ⟨rfl, rfl, rfl, rfl, rfl⟩ rfl rfl rfl rfl rfl (by kernel_rfl) Try.func12 (by kernel_rfl)
    (of_decide_eq_true (by kernel_rfl)) (by unfold Func.isWrapper; rw [if_neg (of_decide_eq_false (by kernel_rfl))]; exact ⟨rfl, rfl⟩)
    (fun os started H enc _ => fnExactSlotRequest_lifted os started H enc)

end Go.Proofs.Ytfjojpmfoingpaa
