/- Facts on the types and functions of this translation, each closed. No conditions. -/
import Derived.Test.YtppjnohcfljmoaaRows
import Derived.Test.YtppjnohcfljmoaaLibS
import Derived.Test.YtppjnohcfljmoaaSh
import Derived.Test.YtppjnohcfljmoaaSc
import Derived.WalkSpells
namespace Go.Sw
open Go Go.RowKit Go.Proofs

theorem fa40_0 : FA Try.prog 40 0 0 := FA.of (T := 9) (k := 0) (by kernel_rfl) (by kernel_rfl)
theorem sca9 : Sca Try.prog 9 := Sca.of (by kernel_rfl) (by kernel_rfl)
theorem str9 : Try.prog.underlying 9 = some .string := by kernel_rfl
theorem fa40_1 : FA Try.prog 40 1 1 := FA.of (T := 9) (k := 0) (by kernel_rfl) (by kernel_rfl)
theorem fa42_0 : FA Try.prog 42 0 0 := FA.of (T := 9) (k := 0) (by kernel_rfl) (by kernel_rfl)
theorem fa42_1 : FA Try.prog 42 1 1 := FA.of (T := 40) (k := 1) (by kernel_rfl) (by kernel_rfl)
theorem agg40 : Agg Try.prog 40 2 := Agg.of (by kernel_rfl) (by kernel_rfl)
theorem fn27 : FN Try.prog 27 := FN.of Try.func27 (by kernel_rfl) (by kernel_rfl)
theorem slu24 : Try.prog.underlying 24 = some (.slice 42) := by kernel_rfl
theorem slt24 : SlT Try.prog 24 42 4 := ⟨by kernel_rfl, by kernel_rfl⟩
theorem agg42 : Agg Try.prog 42 4 := Agg.of (by kernel_rfl) (by kernel_rfl)
theorem fn18 : FN Try.prog 18 := FN.of Try.func18 (by kernel_rfl) (by kernel_rfl)
theorem slu26 : Try.prog.underlying 26 = some (.slice 43) := by kernel_rfl
theorem mixed : Try.prog.follows .mixedOrders = true := by kernel_rfl
theorem slt26 : SlT Try.prog 26 43 2 := ⟨by kernel_rfl, by kernel_rfl⟩
theorem agg43 : Agg Try.prog 43 2 := Agg.of (by kernel_rfl) (by kernel_rfl)
theorem eqin43 (d : Nat) (x y : TAddr) (w : World) : (Op.equalIn (d + 2) 43 (.agg #[S x.host, S x.path]) (.agg #[S y.host, S y.path])).run Try.prog w = .ok (decide (x = y)) w := by
  have hf : Try.prog.fieldsOf 43 = #[⟨ "Host", 9, 0, false, "", "", 0⟩, ⟨ "Path", 9, 1, false, "", "", 16⟩] := by kernel_rfl
  rw [run_equalIn_agg w (d + 1) 43 _ _ (by kernel_rfl) (by kernel_rfl), hf]
  simp [Op.eqFields, go_sem, TAddr.ext_iff]
  try ((repeat' split) <;> simp_all)
theorem eqt43 : EqT Try.prog 43 (α := TAddr) := run_eqt_of (eqin43 9998) (by kernel_rfl)
theorem fa43_0 : FA Try.prog 43 0 0 := FA.of (T := 9) (k := 0) (by kernel_rfl) (by kernel_rfl)
theorem fa43_1 : FA Try.prog 43 1 1 := FA.of (T := 9) (k := 0) (by kernel_rfl) (by kernel_rfl)
theorem sll26 : SlLit Try.prog 26 43 2 [.string ⟨#[]⟩, .string ⟨#[]⟩] := SlLit.of (zv := .agg #[.string ⟨#[]⟩, .string ⟨#[]⟩]) (by kernel_rfl) (by kernel_rfl) (by kernel_rfl) rfl
theorem fn28 : FN Try.prog 28 := FN.of Try.func28 (by kernel_rfl) (by kernel_rfl)
theorem fn29 : FN Try.prog 29 := FN.of Try.func29 (by kernel_rfl) (by kernel_rfl)
theorem elt26 : ElT Try.prog 26 43 (⟨[], []⟩ : TAddr) 32 := ElT.of (zv := .agg #[.string ⟨#[]⟩, .string ⟨#[]⟩]) (by kernel_rfl) (by kernel_rfl) rfl (fun w => own_flat (TAddr.zok w))
theorem slu28 : Try.prog.underlying 28 = some (.slice 45) := by kernel_rfl
theorem slt28 : SlT Try.prog 28 45 4 := ⟨by kernel_rfl, by kernel_rfl⟩
theorem fa45_1 : FA Try.prog 45 1 1 := FA.of (T := 43) (k := 1) (by kernel_rfl) (by kernel_rfl)
theorem fn19 : FN Try.prog 19 := FN.of Try.func19 (by kernel_rfl) (by kernel_rfl)
theorem zt43 : ZT Try.prog 43 [.string ⟨#[]⟩, .string ⟨#[]⟩] := ZT.of (z := .agg #[.string ⟨#[]⟩, .string ⟨#[]⟩]) (by kernel_rfl) rfl
theorem szf9 : (Try.prog.info? 9).map (·.size) = some 1 := by kernel_rfl
theorem szf43 : (Try.prog.info? 43).map (·.size) = some 2 := by kernel_rfl
theorem zt45 : ZT Try.prog 45 [.string ⟨#[]⟩, .string ⟨#[]⟩, .string ⟨#[]⟩, .bool false] := ZT.of (z := .agg #[.string ⟨#[]⟩, .string ⟨#[]⟩, .string ⟨#[]⟩, .bool false]) (by kernel_rfl) rfl
theorem fa45_0 : FA Try.prog 45 0 0 := FA.of (T := 9) (k := 0) (by kernel_rfl) (by kernel_rfl)
theorem fn30 : FN Try.prog 30 := FN.of Try.func30 (by kernel_rfl) (by kernel_rfl)
theorem fa42_2 : FA Try.prog 42 2 3 := FA.of (T := 4) (k := 0) (by kernel_rfl) (by kernel_rfl)
theorem sca4 : Sca Try.prog 4 := Sca.of (by kernel_rfl) (by kernel_rfl)
theorem fa45_2 : FA Try.prog 45 2 3 := FA.of (T := 4) (k := 0) (by kernel_rfl) (by kernel_rfl)
theorem szf4 : (Try.prog.info? 4).map (·.size) = some 1 := by kernel_rfl
theorem agg45 : Agg Try.prog 45 4 := Agg.of (by kernel_rfl) (by kernel_rfl)
theorem szf45 : (Try.prog.info? 45).map (·.size) = some 4 := by kernel_rfl
theorem elt28 : ElT Try.prog 28 45 (⟨[], ⟨[], []⟩, false⟩ : TSent) 56 := ElT.of (zv := .agg #[.string ⟨#[]⟩, .string ⟨#[]⟩, .string ⟨#[]⟩, .bool false]) (by kernel_rfl) (by kernel_rfl) rfl (fun w => own_flat (TSent.zok w))
theorem fn20 : FN Try.prog 20 := FN.of Try.func20 (by kernel_rfl) (by kernel_rfl)
theorem fn31 : FN Try.prog 31 := FN.of Try.func31 (by kernel_rfl) (by kernel_rfl)
theorem fn33 : FN Try.prog 33 := FN.of Try.func33 (by kernel_rfl) (by kernel_rfl)
theorem fn21 : FN Try.prog 21 := FN.of Try.func21 (by kernel_rfl) (by kernel_rfl)
theorem fn22 : FN Try.prog 22 := FN.of Try.func22 (by kernel_rfl) (by kernel_rfl)
theorem bool4 : Try.prog.underlying 4 = some .bool := by kernel_rfl
theorem fn23 : FN Try.prog 23 := FN.of Try.func23 (by kernel_rfl) (by kernel_rfl)
theorem u8t5 : Try.prog.underlying 5 = some (.int .u8) := by kernel_rfl
theorem sll35 : SlLit Try.prog 35 5 1 [.int .u8 0] := SlLit.of (zv := .int .u8 0) (by kernel_rfl) (by kernel_rfl) (by kernel_rfl) rfl
theorem slu35 : Try.prog.underlying 35 = some (.slice 5) := by kernel_rfl
theorem fn24 : FN Try.prog 24 := FN.of Try.func24 (by kernel_rfl) (by kernel_rfl)
theorem fn7 : FN Try.prog 7 := FN.of Try.func7 (by kernel_rfl) (by kernel_rfl)
theorem fn9 : FN Try.prog 9 := FN.of Try.func9 (by kernel_rfl) (by kernel_rfl)
theorem fn8 : FN Try.prog 8 := FN.of Try.func8 (by kernel_rfl) (by kernel_rfl)
theorem fn10 : FN Try.prog 10 := FN.of Try.func10 (by kernel_rfl) (by kernel_rfl)
theorem fn11 : FN Try.prog 11 := FN.of Try.func11 (by kernel_rfl) (by kernel_rfl)
theorem fn12 : FN Try.prog 12 := FN.of Try.func12 (by kernel_rfl) (by kernel_rfl)
theorem fn13 : FN Try.prog 13 := FN.of Try.func13 (by kernel_rfl) (by kernel_rfl)
theorem fn14 : FN Try.prog 14 := FN.of Try.func14 (by kernel_rfl) (by kernel_rfl)
theorem fn15 : FN Try.prog 15 := FN.of Try.func15 (by kernel_rfl) (by kernel_rfl)

end Go.Sw
