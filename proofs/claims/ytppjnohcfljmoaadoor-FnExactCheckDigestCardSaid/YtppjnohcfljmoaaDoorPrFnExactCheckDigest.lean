/- The law FnExactCheckDigest: for every input it returns true, and the input reads as it did. No conditions. -/
import Derived.Test.YtppjnohcfljmoaaDoorW
import Derived.Test.YtppjnohcfljmoaaDoorOp
import Derived.Test.YtppjnohcfljmoaaDoorTie
import Derived.Test.YtppjnohcfljmoaaDoorCards
import Derived.LaidSub
import Derived.Lib.LaidTab
namespace Go.Proofs.YtppjnohcfljmoaaDoor
open Go Go.RowKit Go.ChangeShapes Go.WideShapes Go.ChangeAt Go.Sw

theorem fnExactCheckDigest_tab (w : World) (h : laidMetH Tryd.prog Rows.fnExactCheckDigestRow.laid w) : Tab10 Tryd.prog w := by
  have h1 := h.filter (fun x => x.1 == "internal/strconv.uint64pow10")
  have e : Rows.fnExactCheckDigestRow.laid.filter (fun x => x.1 == "internal/strconv.uint64pow10") = [("internal/strconv.uint64pow10", Lib.tabData .u64 Lib.pow10Tab)] := by kernel_rfl
  rw [e, MakeChecks.laidMetH_plain _ _ _ (by kernel_rfl)] at h1
  exact Lib.tabIs_of_head (g := 0) (t := 104) (e := 93) (n := 20) (by kernel_rfl) (by kernel_rfl) (by kernel_rfl) (by kernel_rfl) (by kernel_rfl) (by kernel_rfl) h1

set_option maxRecDepth 100000 in
theorem fnExactCheckDigest_lifted (os : Os) (started : os.Started) (H : Type) (enc : TypeId × Value → H) :
    ReturnsInHanded {} Tryd.checked os 3 .any (fun w args => (Rows.fnExactCheckDigestSpec.pre enc Tryd.prog Tryd.f3 Rows.fnExactCheckDigestRow.domain false w args ∧ laidMetH Tryd.prog Rows.fnExactCheckDigestRow.laid w) ∧ sizedMet enc Tryd.prog Tryd.f3 (OpenSpec.ofChange Rows.fnExactCheckDigestSpec) false w args)
      (Rows.fnExactCheckDigestSpec.post enc Tryd.prog Tryd.f3 false true false false) := by
  refine law_laid (C := Tryd.checked) (fn := Tryd.f3) (tb := 4) (laid := Rows.fnExactCheckDigestRow.laid) own_ started (by kernel_rfl) Tryd.func3
    (ChangeSpec.witness_shaped (enc := enc) (C := Tryd.checked) (os := os) (X := fun w _ => laidMetH Tryd.prog Rows.fnExactCheckDigestRow.laid w) false (World.laidAll Tryd.prog os Rows.fnExactCheckDigestRow.laid) #[.string ⟨#[]⟩, .string ⟨#[]⟩] 12 (World.laidAll_os _ _ _)
      (World.shaped_of_ZipB (by kernel_rfl) (by kernel_rfl)) (by kernel_rfl) (by kernel_rfl) (by kernel_rfl)
      (by rw [MakeChecks.laidMetH_plain _ _ _ (by kernel_rfl)]; exact laidMet_laidAll _ (by kernel_rfl) (by kernel_rfl))) rfl rfl (by kernel_rfl) laidOut_ (by kernel_rfl) ?_ ?_
  · intro ds hds
    match ds, hds with
    | [d0, d1], _ => rfl
  · intro W base args ds ps hval0 hA0 hX hS
    have ht_ := fnExactCheckDigest_tab W hX
    have hval : ∀ (j : Nat) t v, Tryd.f3.params[j]? = some t → args[j]? = some v → Value.okWide Tryd.prog W .any base t v := hval0
    have hA : DataW.TrodAll enc Tryd.prog W 0 (fun _ => true) true [9, 9] args.toList ds ps := hA0
    clear hA0 hval0
    obtain ⟨v0, v1, d0, d1, p0, p1, rfl, rfl, rfl, h0, h1⟩ := trodAll_two hA
    obtain ⟨x0, rfl, k0⟩ := openV_str (by kernel_rfl) (hval 0 9 v0 rfl rfl) h0
    obtain ⟨x1, rfl, k1⟩ := openV_str (by kernel_rfl) (hval 1 9 v1 rfl rfl) h1
    exact c_laws_FnExactCheckDigest x0 x1 W k0 k1 ht_

theorem fnExactCheckDigest_holds : Rows.FnExactCheckDigestSaid :=
  OpenClaim.holds_of_wide 3 Tryd.f3 rfl rfl rfl rfl rfl rfl rfl ⟨rfl, rfl, rfl, rfl, rfl⟩ rfl rfl rfl rfl rfl (by kernel_rfl) Tryd.func3 (by kernel_rfl)
    (of_decide_eq_true (by kernel_rfl)) (by unfold Func.isWrapper; rw [if_neg (of_decide_eq_false (by kernel_rfl))]; exact ⟨rfl, rfl⟩)
    (fun os started H enc _ => fnExactCheckDigest_lifted os started H enc)

theorem fnExactCheckDigest_card : Rows.FnExactCheckDigestCardSaid :=
  Claim7.holds_tied_plain_at .later [] [.data, .data, .data] true (true, "890f2b9fd8153e8ce6089a04a466b87f440fa4b7e4195fab0d1d61bfbdc64df4") false fnExactCheckDigest_holds (fun _ h => by cases h) (by kernel_rfl) (fun _ h => by cases h) fnExactCheckDigest_row_tie rfl ⟨rfl, rfl⟩ (by kernel_rfl) rfl
    (fun f fn hf hfn => by
      obtain rfl : f = 3 := Option.some.inj ((show Tryd.prog.funcNamed "loop.example/g00586/laws.FnExactCheckDigest" = some 3 by kernel_rfl).symm.trans hf) |>.symm
      obtain rfl : fn = Tryd.f3 := (Option.some.inj (Tryd.func3.symm.trans hfn)).symm
      exact ⟨by kernel_rfl, fun j t ht => by
        have ht' : (#[9, 9] : Array TypeId)[j]? = some t := ht
        have hm : t ∈ [9, 9] := by simpa using Array.mem_of_getElem? ht'
        have hall : ([9, 9].all fun u => !Tryd.prog.wantsStandIn u) = true := by kernel_rfl
        exact (show Tryd.prog.wantsStandIn t = false by simpa using List.all_eq_true.1 hall t hm)⟩)
    (by kernel_rfl)

end Go.Proofs.YtppjnohcfljmoaaDoor
