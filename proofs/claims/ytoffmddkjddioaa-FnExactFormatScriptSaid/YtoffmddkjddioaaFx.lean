/- Facts on the types and functions of this translation, each closed. No conditions. -/
import Derived.Test.YtoffmddkjddioaaRows
import Derived.Test.YtoffmddkjddioaaLibS
import Derived.Test.YtoffmddkjddioaaSh
import Derived.WalkSpells
namespace Go.Sw
open Go Go.RowKit Go.Proofs

theorem fa51_1 : FA Try.prog 51 1 1 := FA.of (T := 9) (k := 0) (by kernel_rfl) (by kernel_rfl)
theorem sca9 : Sca Try.prog 9 := Sca.of (by kernel_rfl) (by kernel_rfl)
theorem str9 : Try.prog.underlying 9 = some .string := by kernel_rfl
theorem slu22 : Try.prog.underlying 22 = some (.slice 51) := by kernel_rfl
theorem slt22 : SlT Try.prog 22 51 2 := ⟨by kernel_rfl, by kernel_rfl⟩
theorem agg51 : Agg Try.prog 51 2 := Agg.of (by kernel_rfl) (by kernel_rfl)
theorem fn25 : FN Try.prog 25 := FN.of Try.func25 (by kernel_rfl) (by kernel_rfl)
theorem sll29 : SlLit Try.prog 29 9 1 [.string ⟨#[]⟩] := SlLit.of (zv := .string ⟨#[]⟩) (by kernel_rfl) (by kernel_rfl) (by kernel_rfl) rfl
theorem slu25 : Try.prog.underlying 25 = some (.slice 53) := by kernel_rfl
theorem slt25 : SlT Try.prog 25 53 2 := ⟨by kernel_rfl, by kernel_rfl⟩
theorem fa53_0 : FA Try.prog 53 0 0 := FA.of (T := 3) (k := 0) (by kernel_rfl) (by kernel_rfl)
theorem sca3 : Sca Try.prog 3 := Sca.of (by kernel_rfl) (by kernel_rfl)
theorem fn26 : FN Try.prog 26 := FN.of Try.func26 (by kernel_rfl) (by kernel_rfl)
theorem mixed : Try.prog.follows .mixedOrders = true := by kernel_rfl
theorem fa53_1 : FA Try.prog 53 1 1 := FA.of (T := 9) (k := 0) (by kernel_rfl) (by kernel_rfl)
theorem fn27 : FN Try.prog 27 := FN.of Try.func27 (by kernel_rfl) (by kernel_rfl)
theorem slt29 : SlT Try.prog 29 9 1 := ⟨by kernel_rfl, by kernel_rfl⟩
theorem zt53 : ZT Try.prog 53 [.int .i64 0, .string ⟨#[]⟩] := ZT.of (z := .agg #[.int .i64 0, .string ⟨#[]⟩]) (by kernel_rfl) rfl
theorem fa51_0 : FA Try.prog 51 0 0 := FA.of (T := 3) (k := 0) (by kernel_rfl) (by kernel_rfl)
theorem szf3 : (Try.prog.info? 3).map (·.size) = some 1 := by kernel_rfl
theorem szf9 : (Try.prog.info? 9).map (·.size) = some 1 := by kernel_rfl
theorem agg53 : Agg Try.prog 53 2 := Agg.of (by kernel_rfl) (by kernel_rfl)
theorem szf53 : (Try.prog.info? 53).map (·.size) = some 2 := by kernel_rfl
theorem elt25 : ElT Try.prog 25 53 (⟨0, []⟩ : TLine) 24 := ElT.of (zv := .agg #[.int .i64 0, .string ⟨#[]⟩]) (by kernel_rfl) (by kernel_rfl) rfl (fun w => own_flat (TLine.zok w))
theorem fn28 : FN Try.prog 28 := FN.of Try.func28 (by kernel_rfl) (by kernel_rfl)
theorem fn45 : FN Try.prog 45 := FN.of Try.func45 (by kernel_rfl) (by kernel_rfl)
theorem fn29 : FN Try.prog 29 := FN.of Try.func29 (by kernel_rfl) (by kernel_rfl)
theorem elt29 : ElT Try.prog 29 9 ([] : Str) 16 := ElT.of (zv := .string ⟨#[]⟩) (by kernel_rfl) (by kernel_rfl) rfl (fun w => own_flat (Nat.zero_le _))
theorem fn30 : FN Try.prog 30 := FN.of Try.func30 (by kernel_rfl) (by kernel_rfl)
theorem fn31 : FN Try.prog 31 := FN.of Try.func31 (by kernel_rfl) (by kernel_rfl)
theorem fn6 : FN Try.prog 6 := FN.of Try.func6 (by kernel_rfl) (by kernel_rfl)
theorem fn8 : FN Try.prog 8 := FN.of Try.func8 (by kernel_rfl) (by kernel_rfl)
theorem fn7 : FN Try.prog 7 := FN.of Try.func7 (by kernel_rfl) (by kernel_rfl)
theorem fn9 : FN Try.prog 9 := FN.of Try.func9 (by kernel_rfl) (by kernel_rfl)
theorem fn10 : FN Try.prog 10 := FN.of Try.func10 (by kernel_rfl) (by kernel_rfl)

end Go.Sw
