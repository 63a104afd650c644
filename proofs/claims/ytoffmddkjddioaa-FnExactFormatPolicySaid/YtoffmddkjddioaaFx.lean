/- Facts on the types and functions of this translation, each closed. No conditions. -/
import Derived.Test.YtoffmddkjddioaaRows
import Derived.Test.YtoffmddkjddioaaLibS
import Derived.Test.YtoffmddkjddioaaSh
import Derived.WalkSpells
namespace Go.Sw
open Go Go.RowKit Go.Proofs

theorem slu29 : Try.prog.underlying 29 = some (.slice 9) := by kernel_rfl
theorem slt29 : SlT Try.prog 29 9 1 := ⟨by kernel_rfl, by kernel_rfl⟩
theorem sca9 : Sca Try.prog 9 := Sca.of (by kernel_rfl) (by kernel_rfl)
theorem str9 : Try.prog.underlying 9 = some .string := by kernel_rfl
theorem fa31_1 : FA Try.prog 31 1 1 := FA.of (T := 29) (k := 0) (by kernel_rfl) (by kernel_rfl)
theorem sca29 : Sca Try.prog 29 := Sca.of (by kernel_rfl) (by kernel_rfl)
theorem fn32 : FN Try.prog 32 := FN.of Try.func32 (by kernel_rfl) (by kernel_rfl)
theorem fa31_2 : FA Try.prog 31 2 2 := FA.of (T := 29) (k := 0) (by kernel_rfl) (by kernel_rfl)
theorem fa31_3 : FA Try.prog 31 3 3 := FA.of (T := 29) (k := 0) (by kernel_rfl) (by kernel_rfl)
theorem fa31_4 : FA Try.prog 31 4 4 := FA.of (T := 9) (k := 0) (by kernel_rfl) (by kernel_rfl)
theorem fn26 : FN Try.prog 26 := FN.of Try.func26 (by kernel_rfl) (by kernel_rfl)
theorem fn62 : FN Try.prog 62 := FN.of Try.func62 (by kernel_rfl) (by kernel_rfl)
theorem fa34_0 : FA Try.prog 34 0 0 := FA.of (T := 4) (k := 0) (by kernel_rfl) (by kernel_rfl)
theorem sca4 : Sca Try.prog 4 := Sca.of (by kernel_rfl) (by kernel_rfl)
theorem fa34_1 : FA Try.prog 34 1 1 := FA.of (T := 29) (k := 0) (by kernel_rfl) (by kernel_rfl)
theorem fa34_2 : FA Try.prog 34 2 2 := FA.of (T := 29) (k := 0) (by kernel_rfl) (by kernel_rfl)
theorem fa34_3 : FA Try.prog 34 3 3 := FA.of (T := 29) (k := 0) (by kernel_rfl) (by kernel_rfl)
theorem fa34_4 : FA Try.prog 34 4 4 := FA.of (T := 9) (k := 0) (by kernel_rfl) (by kernel_rfl)
theorem fn49 : FN Try.prog 49 := FN.of Try.func49 (by kernel_rfl) (by kernel_rfl)
theorem fn50 : FN Try.prog 50 := FN.of Try.func50 (by kernel_rfl) (by kernel_rfl)
theorem agg34 : Agg Try.prog 34 5 := Agg.of (by kernel_rfl) (by kernel_rfl)
theorem fn33 : FN Try.prog 33 := FN.of Try.func33 (by kernel_rfl) (by kernel_rfl)
theorem mixed : Try.prog.follows .mixedOrders = true := by kernel_rfl
theorem fn34 : FN Try.prog 34 := FN.of Try.func34 (by kernel_rfl) (by kernel_rfl)
theorem elt29 : ElT Try.prog 29 9 ([] : Str) 16 := ElT.of (zv := .string ⟨#[]⟩) (by kernel_rfl) (by kernel_rfl) rfl (fun w => own_flat (Nat.zero_le _))
theorem szf9 : (Try.prog.info? 9).map (·.size) = some 1 := by kernel_rfl
theorem zt34 : ZT Try.prog 34 [.bool false, .slice none 0 0, .slice none 0 0, .slice none 0 0, .string ⟨#[]⟩] := ZT.of (z := .agg #[.bool false, .slice none 0 0, .slice none 0 0, .slice none 0 0, .string ⟨#[]⟩]) (by kernel_rfl) rfl
theorem fa31_0 : FA Try.prog 31 0 0 := FA.of (T := 4) (k := 0) (by kernel_rfl) (by kernel_rfl)
theorem szf4 : (Try.prog.info? 4).map (·.size) = some 1 := by kernel_rfl
theorem fn35 : FN Try.prog 35 := FN.of Try.func35 (by kernel_rfl) (by kernel_rfl)
theorem szf29 : (Try.prog.info? 29).map (·.size) = some 1 := by kernel_rfl
theorem szf34 : (Try.prog.info? 34).map (·.size) = some 5 := by kernel_rfl
theorem fn71 : FN Try.prog 71 := FN.of Try.func71 (by kernel_rfl) (by kernel_rfl)
theorem fn45 : FN Try.prog 45 := FN.of Try.func45 (by kernel_rfl) (by kernel_rfl)
theorem fn65 : FN Try.prog 65 := FN.of Try.func65 (by kernel_rfl) (by kernel_rfl)
theorem fn63 : FN Try.prog 63 := FN.of Try.func63 (by kernel_rfl) (by kernel_rfl)
theorem fn64 : FN Try.prog 64 := FN.of Try.func64 (by kernel_rfl) (by kernel_rfl)
theorem fn51 : FN Try.prog 51 := FN.of Try.func51 (by kernel_rfl) (by kernel_rfl)
theorem fn52 : FN Try.prog 52 := FN.of Try.func52 (by kernel_rfl) (by kernel_rfl)
theorem fn36 : FN Try.prog 36 := FN.of Try.func36 (by kernel_rfl) (by kernel_rfl)
theorem sll29 : SlLit Try.prog 29 9 1 [.string ⟨#[]⟩] := SlLit.of (zv := .string ⟨#[]⟩) (by kernel_rfl) (by kernel_rfl) (by kernel_rfl) rfl
theorem fn30 : FN Try.prog 30 := FN.of Try.func30 (by kernel_rfl) (by kernel_rfl)
theorem bool4 : Try.prog.underlying 4 = some .bool := by kernel_rfl
theorem fn37 : FN Try.prog 37 := FN.of Try.func37 (by kernel_rfl) (by kernel_rfl)
theorem agg31 : Agg Try.prog 31 5 := Agg.of (by kernel_rfl) (by kernel_rfl)
theorem fn11 : FN Try.prog 11 := FN.of Try.func11 (by kernel_rfl) (by kernel_rfl)
theorem fn13 : FN Try.prog 13 := FN.of Try.func13 (by kernel_rfl) (by kernel_rfl)
theorem fn12 : FN Try.prog 12 := FN.of Try.func12 (by kernel_rfl) (by kernel_rfl)
theorem fn14 : FN Try.prog 14 := FN.of Try.func14 (by kernel_rfl) (by kernel_rfl)
theorem fn15 : FN Try.prog 15 := FN.of Try.func15 (by kernel_rfl) (by kernel_rfl)

end Go.Sw
