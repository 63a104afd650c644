/- The law FnExactStoreEntry: for every input it returns true, and the input reads as it did. No conditions. -/
import Derived.Test.YtoffmddkjddioaaDoorW
import Derived.Test.YtoffmddkjddioaaDoorOp
import Derived.Test.YtoffmddkjddioaaDoorTie
import Derived.Test.YtoffmddkjddioaaDoorCards
namespace Go.Proofs.YtoffmddkjddioaaDoor
open Go Go.RowKit Go.ChangeShapes Go.WideShapes Go.ChangeAt Go.Sw

set_option maxRecDepth 100000 in
theorem fnExactStoreEntry_lifted (os : Os) (started : os.Started) (H : Type) (enc : TypeId × Value → H) :
    ReturnsInHanded {} Tryd.checked os 9 .any (fun w args => (Rows.fnExactStoreEntrySpec.pre enc Tryd.prog Tryd.f9 Rows.fnExactStoreEntryRow.domain false w args ∧ laidMetH Tryd.prog Rows.fnExactStoreEntryRow.laid w) ∧ sizedMet enc Tryd.prog Tryd.f9 (OpenSpec.ofChange Rows.fnExactStoreEntrySpec) false w args)
      (Rows.fnExactStoreEntrySpec.post enc Tryd.prog Tryd.f9 false true false false) := by
  refine law_laid (C := Tryd.checked) (fn := Tryd.f9) (tb := 4) (laid := Rows.fnExactStoreEntryRow.laid) own_ started (by kernel_rfl) Tryd.func9
    (ChangeSpec.witness_shaped (enc := enc) (C := Tryd.checked) (os := os) (X := fun w _ => laidMetH Tryd.prog Rows.fnExactStoreEntryRow.laid w) false (World.laidAll Tryd.prog os Rows.fnExactStoreEntryRow.laid) #[.agg #[.slice none 0 0], .string ⟨#[]⟩, .agg #[.string ⟨#[]⟩, .string ⟨#[]⟩], .agg #[.int .i64 0, .int .i64 0, .string ⟨#[]⟩, .int .i64 0, .bool false, .string ⟨#[]⟩], .int .i64 0] 12 (World.laidAll_os _ _ _)
      (World.shaped_of_ZipB (by kernel_rfl) (by kernel_rfl)) (by kernel_rfl) (by kernel_rfl) (by kernel_rfl)
      (by rw [MakeChecks.laidMetH_plain _ _ _ (by kernel_rfl)]; exact laidMet_laidAll _ (by kernel_rfl) (by kernel_rfl))) rfl rfl (by kernel_rfl) laidOut_ (by kernel_rfl) ?_ ?_
  · intro ds hds
    match ds, hds with
    | [d0, d1, d2, d3, d4], _ => rfl
  · intro W base args ds ps hval0 hA0 hX hS
    have hm_ := maxlen_ W hS
    have hval : ∀ (j : Nat) t v, Tryd.f9.params[j]? = some t → args[j]? = some v → Value.okWide Tryd.prog W .any base t v := hval0
    have hA : DataW.TrodAll enc Tryd.prog W 0 (fun _ => true) true [55, 9, 72, 29, 3] args.toList ds ps := hA0
    clear hA0 hval0
    obtain ⟨v0, vs0, d0, ds0, p0, q0, hargs, rfl, rfl, h0, r0⟩ := trodAll_cons hA
    obtain ⟨v1, vs1, d1, ds1, p1, q1, rfl, rfl, rfl, h1, r1⟩ := trodAll_cons r0
    obtain ⟨v2, vs2, d2, ds2, p2, q2, rfl, rfl, rfl, h2, r2⟩ := trodAll_cons r1
    obtain ⟨v3, vs3, d3, ds3, p3, q3, rfl, rfl, rfl, h3, r3⟩ := trodAll_cons r2
    obtain ⟨v4, vs4, d4, ds4, p4, q4, rfl, rfl, rfl, h4, r4⟩ := trodAll_cons r3
    obtain ⟨rfl, rfl, rfl⟩ := trodAll_nil r4
    obtain rfl : args = #[v0, v1, v2, v3, v4] := by cases args; simp_all
    obtain ⟨x0, rfl, k0⟩ := openV_struct (by kernel_rfl) opens55 (hval 0 55 v0 rfl rfl) h0
    obtain ⟨x1, rfl, k1⟩ := openV_str (by kernel_rfl) (hval 1 9 v1 rfl rfl) h1
    obtain ⟨x2, rfl, k2⟩ := openV_struct (by kernel_rfl) opens72 (hval 2 72 v2 rfl rfl) h2
    obtain ⟨x3, rfl, k3⟩ := openV_struct (by kernel_rfl) opens29 (hval 3 29 v3 rfl rfl) h3
    obtain ⟨x4, rfl, k4⟩ := openV_int (by kernel_rfl) (hval 4 3 v4 rfl rfl) h4
    exact c_laws_FnExactStoreEntry x0 x1 x2 x3 x4 W k0 k1 k2 k3 k4 hm_

theorem fnExactStoreEntry_holds : Rows.FnExactStoreEntrySaid :=
  OpenClaim.holds_of_wide 9 Tryd.f9 rfl rfl rfl rfl rfl rfl rfl ⟨rfl, rfl, rfl, rfl, rfl⟩ rfl rfl rfl rfl rfl (by kernel_rfl) Tryd.func9 (by kernel_rfl)
    (of_decide_eq_true (by kernel_rfl)) (by unfold Func.isWrapper; rw [if_neg (of_decide_eq_false (by kernel_rfl))]; exact ⟨rfl, rfl⟩)
    (fun os started H enc _ => fnExactStoreEntry_lifted os started H enc)

theorem fnExactStoreEntry_card : Rows.FnExactStoreEntryCardSaid :=
  Claim7.holds_tied_plain_at .later [] [.data, .pinned] true (true, "ccda7bd4b4e1fac4a412b8dbf0afc639f6604b09e364eca12f0f331d6e54901f") false fnExactStoreEntry_holds (fun _ h => by cases h) (by kernel_rfl) (fun _ h => by cases h) fnExactStoreEntry_row_tie rfl ⟨rfl, rfl⟩ (by kernel_rfl) rfl
    (fun f fn hf hfn => by
      obtain rfl : f = 9 := Option.some.inj ((show Tryd.prog.funcNamed "loop.example/g00586/laws.FnExactStoreEntry" = some 9 by kernel_rfl).symm.trans hf) |>.symm
      obtain rfl : fn = Tryd.f9 := (Option.some.inj (Tryd.func9.symm.trans hfn)).symm
      exact ⟨by kernel_rfl, fun j t ht => by
        have ht' : (#[55, 9, 72, 29, 3] : Array TypeId)[j]? = some t := ht
        have hm : t ∈ [55, 9, 72, 29, 3] := by simpa using Array.mem_of_getElem? ht'
        have hall : ([55, 9, 72, 29, 3].all fun u => !Tryd.prog.wantsStandIn u) = true := by kernel_rfl
        exact (show Tryd.prog.wantsStandIn t = false by simpa using List.all_eq_true.1 hall t hm)⟩)
    (by kernel_rfl)

end Go.Proofs.YtoffmddkjddioaaDoor
