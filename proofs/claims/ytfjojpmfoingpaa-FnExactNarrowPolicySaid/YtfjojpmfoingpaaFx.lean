/- Facts on the types and functions of this translation, each closed. No conditions. -/
import Derived.Test.YtfjojpmfoingpaaRows
import Derived.Test.YtfjojpmfoingpaaLibH
import Derived.WalkSpells
namespace Go.Sw
open Go Go.RowKit Go.Proofs

theorem slu22 : Try.prog.underlying 22 = some (.slice 9) := by kernel_rfl
theorem slt22 : SlT Try.prog 22 9 1 := ⟨by kernel_rfl, by kernel_rfl⟩
theorem sca9 : Sca Try.prog 9 := Sca.of (by kernel_rfl) (by kernel_rfl)
theorem str9 : Try.prog.underlying 9 = some .string := by kernel_rfl
theorem fa24_1 : FA Try.prog 24 1 1 := FA.of (T := 22) (k := 0) (by kernel_rfl) (by kernel_rfl)
theorem sca22 : Sca Try.prog 22 := Sca.of (by kernel_rfl) (by kernel_rfl)
theorem fn62 : FN Try.prog 62 := FN.of Try.func62 (by kernel_rfl) (by kernel_rfl)
theorem fa24_2 : FA Try.prog 24 2 2 := FA.of (T := 22) (k := 0) (by kernel_rfl) (by kernel_rfl)
theorem fa24_3 : FA Try.prog 24 3 3 := FA.of (T := 22) (k := 0) (by kernel_rfl) (by kernel_rfl)
theorem fa24_4 : FA Try.prog 24 4 4 := FA.of (T := 9) (k := 0) (by kernel_rfl) (by kernel_rfl)
theorem zt26 : ZT Try.prog 26 [.bool false, .slice none 0 0, .slice none 0 0, .slice none 0 0, .string ⟨#[]⟩] := ZT.of (z := .agg #[.bool false, .slice none 0 0, .slice none 0 0, .slice none 0 0, .string ⟨#[]⟩]) (by kernel_rfl) rfl
theorem mixed : Try.prog.follows .mixedOrders = true := by kernel_rfl
theorem fa26_0 : FA Try.prog 26 0 0 := FA.of (T := 4) (k := 0) (by kernel_rfl) (by kernel_rfl)
theorem sca4 : Sca Try.prog 4 := Sca.of (by kernel_rfl) (by kernel_rfl)
theorem fa26_1 : FA Try.prog 26 1 1 := FA.of (T := 22) (k := 0) (by kernel_rfl) (by kernel_rfl)
theorem fa26_2 : FA Try.prog 26 2 2 := FA.of (T := 22) (k := 0) (by kernel_rfl) (by kernel_rfl)
theorem fa26_3 : FA Try.prog 26 3 3 := FA.of (T := 22) (k := 0) (by kernel_rfl) (by kernel_rfl)
theorem fa26_4 : FA Try.prog 26 4 4 := FA.of (T := 9) (k := 0) (by kernel_rfl) (by kernel_rfl)
theorem sll22 : SlLit Try.prog 22 9 1 [.string ⟨#[]⟩] := SlLit.of (zv := .string ⟨#[]⟩) (by kernel_rfl) (by kernel_rfl) (by kernel_rfl) rfl
theorem elt22 : ElT Try.prog 22 9 ([] : Str) 16 := ElT.of (zv := .string ⟨#[]⟩) (by kernel_rfl) (by kernel_rfl) rfl (fun w => own_flat (Nat.zero_le _))
theorem bt26 : BT Try.prog 26 [.bool false, .slice none 0 0, .slice none 0 0, .slice none 0 0, .string ⟨#[]⟩] [(0, 1), (1, 1), (2, 1), (3, 1), (4, 1)] := BT.of (z := .agg #[.bool false, .slice none 0 0, .slice none 0 0, .slice none 0 0, .string ⟨#[]⟩]) (by kernel_rfl) (by kernel_rfl) rfl (fun w => by kernel_rfl)
theorem szf26 : (Try.prog.info? 26).map (·.size) = some 5 := by kernel_rfl
theorem agg26 : Agg Try.prog 26 5 := Agg.of (by kernel_rfl) (by kernel_rfl)
theorem fn126 : FN Try.prog 126 := FN.of Try.func126 (by kernel_rfl) (by kernel_rfl)
theorem fn63 : FN Try.prog 63 := FN.of Try.func63 (by kernel_rfl) (by kernel_rfl)
theorem fn64 : FN Try.prog 64 := FN.of Try.func64 (by kernel_rfl) (by kernel_rfl)
theorem szf9 : (Try.prog.info? 9).map (·.size) = some 1 := by kernel_rfl
theorem fa24_0 : FA Try.prog 24 0 0 := FA.of (T := 4) (k := 0) (by kernel_rfl) (by kernel_rfl)
theorem szf4 : (Try.prog.info? 4).map (·.size) = some 1 := by kernel_rfl
theorem fn65 : FN Try.prog 65 := FN.of Try.func65 (by kernel_rfl) (by kernel_rfl)
theorem szf22 : (Try.prog.info? 22).map (·.size) = some 1 := by kernel_rfl
theorem fn165 : FN Try.prog 165 := FN.of Try.func165 (by kernel_rfl) (by kernel_rfl)
theorem fn127 : FN Try.prog 127 := FN.of Try.func127 (by kernel_rfl) (by kernel_rfl)
theorem fn66 : FN Try.prog 66 := FN.of Try.func66 (by kernel_rfl) (by kernel_rfl)
theorem fn67 : FN Try.prog 67 := FN.of Try.func67 (by kernel_rfl) (by kernel_rfl)
theorem bool4 : Try.prog.underlying 4 = some .bool := by kernel_rfl
theorem fn68 : FN Try.prog 68 := FN.of Try.func68 (by kernel_rfl) (by kernel_rfl)
theorem u8t5 : Try.prog.underlying 5 = some (.int .u8) := by kernel_rfl
theorem sll199 : SlLit Try.prog 199 5 1 [.int .u8 0] := SlLit.of (zv := .int .u8 0) (by kernel_rfl) (by kernel_rfl) (by kernel_rfl) rfl
theorem slu199 : Try.prog.underlying 199 = some (.slice 5) := by kernel_rfl
theorem fn103 : FN Try.prog 103 := FN.of Try.func103 (by kernel_rfl) (by kernel_rfl)
theorem fn69 : FN Try.prog 69 := FN.of Try.func69 (by kernel_rfl) (by kernel_rfl)
theorem fn70 : FN Try.prog 70 := FN.of Try.func70 (by kernel_rfl) (by kernel_rfl)
theorem agg24 : Agg Try.prog 24 5 := Agg.of (by kernel_rfl) (by kernel_rfl)
theorem fn13 : FN Try.prog 13 := FN.of Try.func13 (by kernel_rfl) (by kernel_rfl)
theorem fn15 : FN Try.prog 15 := FN.of Try.func15 (by kernel_rfl) (by kernel_rfl)
theorem fn14 : FN Try.prog 14 := FN.of Try.func14 (by kernel_rfl) (by kernel_rfl)
theorem fn16 : FN Try.prog 16 := FN.of Try.func16 (by kernel_rfl) (by kernel_rfl)
theorem fn17 : FN Try.prog 17 := FN.of Try.func17 (by kernel_rfl) (by kernel_rfl)
theorem fn18 : FN Try.prog 18 := FN.of Try.func18 (by kernel_rfl) (by kernel_rfl)
theorem fn19 : FN Try.prog 19 := FN.of Try.func19 (by kernel_rfl) (by kernel_rfl)

end Go.Sw
