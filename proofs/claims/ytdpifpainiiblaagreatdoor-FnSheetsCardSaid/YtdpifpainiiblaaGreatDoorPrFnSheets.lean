/- The law FnSheets: for every input it returns true, and the input reads as it did. No conditions. -/
import Derived.Test.YtdpifpainiiblaaGreatDoorW
import Derived.Test.YtdpifpainiiblaaGreatDoorOp
import Derived.Test.YtdpifpainiiblaaGreatDoorTie
import Derived.Test.YtdpifpainiiblaaGreatDoorCards
import Derived.LaidSub
import Derived.Lib.LaidTab
import Derived.Stop.LaidErr
namespace Go.Proofs.YtdpifpainiiblaaGreatDoor
open Go Go.RowKit Go.ChangeShapes Go.WideShapes Go.ChangeAt Go.Sw

theorem fnSheets_star : "*" ++ "errors.errorString" = "*errors.errorString" := by decide
theorem fnSheets_row (u : TypeId) (h : Tryz.prog.typeName? 3 u = some "*errors.errorString") : u = 227 :=
  typeName_ptr_named (nm := "errors.errorString") (by rw [fnSheets_star]; kernel_rfl) (by kernel_rfl) (by decide) u (by rw [fnSheets_star]; exact h)
theorem fnSheets_err {n : String} {g ti : Nat} {ms : Array (String × TypeId)} {text : List UInt8} (w : World) (h : laidMetH Tryz.prog Rows.fnSheetsRow.laid w)
    (e : Rows.fnSheetsRow.laid.filter (fun x => x.1 == n) = [(n, .iface "*errors.errorString" (.ptr (.agg [.lit (.string text)])))])
    (hg : Tryz.prog.globalNamed n = some g) (ht : (Tryz.prog.globals[g]?).map (·.type) = some ti) (hi : Tryz.prog.underlying ti = some (.interface ms)) : ErrCell g w := by
  have h1 := h.filter (fun x => x.1 == n)
  rw [e, MakeChecks.laidMetH_plain _ _ _ (by kernel_rfl)] at h1
  obtain ⟨a0, s0, hv0, _, _, _⟩ := laid_sentinel h1 hg ht hi fnSheets_row (te := 229) (ts := 9) (f := ⟨ "s", 9, 0, false, "", "errors", 0⟩) (by kernel_rfl) (by kernel_rfl) rfl rfl (by kernel_rfl) (by kernel_rfl) (by kernel_rfl)
  exact ⟨_, (by have h0 := World.var?_cell hg hv0 0; simpa using h0), .inr ⟨_, _, rfl⟩⟩
theorem fnSheets_errs (w : World) (h : laidMetH Tryz.prog Rows.fnSheetsRow.laid w) : ErrCells 1 2 w :=
  ⟨fnSheets_err (n := "strconv.ErrSyntax") (g := 1) (ti := 96) (text := [105, 110, 118, 97, 108, 105, 100, 32, 115, 121, 110, 116, 97, 120]) w h (by kernel_rfl) (by kernel_rfl) (by kernel_rfl) Tryz.underlying96,
   fnSheets_err (n := "strconv.ErrRange") (g := 2) (ti := 96) (text := [118, 97, 108, 117, 101, 32, 111, 117, 116, 32, 111, 102, 32, 114, 97, 110, 103, 101]) w h (by kernel_rfl) (by kernel_rfl) (by kernel_rfl) Tryz.underlying96⟩

theorem fnSheets_tab (w : World) (h : laidMetH Tryz.prog Rows.fnSheetsRow.laid w) : Tab10 Tryz.prog w := by
  have h1 := h.filter (fun x => x.1 == "internal/strconv.uint64pow10")
  have e : Rows.fnSheetsRow.laid.filter (fun x => x.1 == "internal/strconv.uint64pow10") = [("internal/strconv.uint64pow10", Lib.tabData .u64 Lib.pow10Tab)] := by kernel_rfl
  rw [e, MakeChecks.laidMetH_plain _ _ _ (by kernel_rfl)] at h1
  exact Lib.tabIs_of_head (g := 5) (t := 231) (e := 138) (n := 20) (by kernel_rfl) (by kernel_rfl) (by kernel_rfl) (by kernel_rfl) (by kernel_rfl) (by kernel_rfl) h1

set_option maxRecDepth 100000 in
theorem fnSheets_lifted (os : Os) (started : os.Started) (H : Type) (enc : TypeId × Value → H) :
    ReturnsInHanded {} Tryz.checked os 3 .any (fun w args => (Rows.fnSheetsSpec.pre enc Tryz.prog Tryz.f3 Rows.fnSheetsRow.domain false w args ∧ laidMetH Tryz.prog Rows.fnSheetsRow.laid w) ∧ sizedMet enc Tryz.prog Tryz.f3 (OpenSpec.ofChange Rows.fnSheetsSpec) false w args)
      (Rows.fnSheetsSpec.post enc Tryz.prog Tryz.f3 false true false false) := by
  refine law_laid (C := Tryz.checked) (fn := Tryz.f3) (tb := 4) (laid := Rows.fnSheetsRow.laid) own_ started (by kernel_rfl) Tryz.func3
    (ChangeSpec.witness_shaped (enc := enc) (C := Tryz.checked) (os := os) (X := fun w _ => laidMetH Tryz.prog Rows.fnSheetsRow.laid w) false (World.laidAll Tryz.prog os Rows.fnSheetsRow.laid) #[.slice none 0 0] 12 (World.laidAll_os _ _ _)
      (World.shaped_of_ZipB (by kernel_rfl) (by kernel_rfl)) (by kernel_rfl) (by kernel_rfl) (by kernel_rfl)
      (by rw [MakeChecks.laidMetH_plain _ _ _ (by kernel_rfl)]; exact laidMet_laidAll _ (by kernel_rfl) (by kernel_rfl))) rfl rfl (by kernel_rfl) laidOut_ (by kernel_rfl) ?_ ?_
  · intro ds hds
    match ds, hds with
    | [d0], _ => rfl
  · intro W base args ds ps hval0 hA0 hX hS
    have hm_ := maxlen_ W hS
    have ht_ := fnSheets_tab W hX
    have he_ := fnSheets_errs W hX
    have hval : ∀ (j : Nat) t v, Tryz.f3.params[j]? = some t → args[j]? = some v → Value.okWide Tryz.prog W .any base t v := hval0
    have hA : DataW.TrodAll enc Tryz.prog W 0 (fun _ => true) true [22] args.toList ds ps := hA0
    clear hA0 hval0
    obtain ⟨v0, d0, rfl, rfl, h0⟩ := trodAll_one hA
    obtain ⟨x0, rfl, k0⟩ := openV_slice (el := 5) (by kernel_rfl) opens22 (hval 0 22 v0 rfl rfl) h0
    exact c_laws_FnSheets x0 W k0 hm_ ht_ he_

set_option maxHeartbeats 4000000 in
theorem fnSheets_closed : joinedFacts Tryz.prog 3 Tryz.f3 Rows.fnSheetsSpec Rows.fnSheetsRow = true := by
  simp only [joinedFacts, Bool.and_eq_true]
  repeat' apply And.intro
  all_goals (as_aux_lemma => kernel_rfl)

set_option maxHeartbeats 4000000 in
theorem fnSheets_holds : Rows.FnSheetsSaid :=
  OpenClaim.holds_of_wide 3 Tryz.f3 rfl rfl rfl rfl rfl rfl rfl ⟨rfl, rfl, rfl, rfl, rfl⟩ rfl rfl rfl rfl rfl (by as_aux_lemma => kernel_rfl) Tryz.func3 fnSheets_closed
    (of_decide_eq_true (by as_aux_lemma => kernel_rfl)) (by unfold Func.isWrapper; rw [if_neg (of_decide_eq_false (by as_aux_lemma => kernel_rfl))]; exact ⟨rfl, rfl⟩)
    (fun os started H enc _ => fnSheets_lifted os started H enc)

set_option maxHeartbeats 4000000 in
theorem fnSheets_card : Rows.FnSheetsCardSaid :=
  Claim7.holds_tied_plain_at .later [] [.data, .data, .data, .data, .sentinel, .sentinel, .pinned] true (true, "bc1b2bb736a1650a65670d1b7555018690d4d4c7813e862dec231e1c51cb6825") true fnSheets_holds (fun _ h => by cases h) (by as_aux_lemma => kernel_rfl) (fun _ h => by cases h) fnSheets_row_tie rfl ⟨rfl, rfl⟩ (by as_aux_lemma => kernel_rfl) rfl
    (fun f fn hf hfn => by
      obtain rfl : f = 3 := Option.some.inj ((show Tryz.prog.funcNamed "loop.example/g00586/laws.FnSheets" = some 3 by as_aux_lemma => kernel_rfl).symm.trans hf) |>.symm
      obtain rfl : fn = Tryz.f3 := (Option.some.inj (Tryz.func3.symm.trans hfn)).symm
      exact ⟨by as_aux_lemma => kernel_rfl, fun j t ht => by
        have ht' : (#[22] : Array TypeId)[j]? = some t := ht
        have hm : t ∈ [22] := by simpa using Array.mem_of_getElem? ht'
        have hall : ([22].all fun u => !Tryz.prog.wantsStandIn u) = true := by as_aux_lemma => kernel_rfl
        exact (show Tryz.prog.wantsStandIn t = false by simpa using List.all_eq_true.1 hall t hm)⟩)
    (by as_aux_lemma => kernel_rfl)

end Go.Proofs.YtdpifpainiiblaaGreatDoor
