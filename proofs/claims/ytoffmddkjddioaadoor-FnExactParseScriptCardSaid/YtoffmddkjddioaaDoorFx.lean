/- Facts on the types and functions of this translation, each closed. No conditions. -/
import Derived.Test.YtoffmddkjddioaaDoorRows
import Derived.Test.YtoffmddkjddioaaDoorLibY
import Derived.Test.YtoffmddkjddioaaDoorSh
import Derived.WalkSpells
namespace Go.Sw
open Go Go.RowKit Go.Proofs

theorem sll35 : SlLit Tryd.prog 35 9 1 [.string ⟨#[]⟩] := SlLit.of (zv := .string ⟨#[]⟩) (by kernel_rfl) (by kernel_rfl) (by kernel_rfl) rfl
theorem str9 : Tryd.prog.underlying 9 = some .string := by kernel_rfl
theorem elt35 : ElT Tryd.prog 35 9 ([] : Str) 16 := ElT.of (zv := .string ⟨#[]⟩) (by kernel_rfl) (by kernel_rfl) rfl (fun w => own_flat (Nat.zero_le _))
theorem fn56 : FN Tryd.prog 56 := FN.of Tryd.func56 (by kernel_rfl) (by kernel_rfl)
theorem zt85 : ZT Tryd.prog 85 [.int .i64 0, .string ⟨#[]⟩] := ZT.of (z := .agg #[.int .i64 0, .string ⟨#[]⟩]) (by kernel_rfl) rfl
theorem fn89 : FN Tryd.prog 89 := FN.of Tryd.func89 (by kernel_rfl) (by kernel_rfl)
theorem slu35 : Tryd.prog.underlying 35 = some (.slice 9) := by kernel_rfl
theorem slt35 : SlT Tryd.prog 35 9 1 := ⟨by kernel_rfl, by kernel_rfl⟩
theorem sca9 : Sca Tryd.prog 9 := Sca.of (by kernel_rfl) (by kernel_rfl)
theorem bt85 : BT Tryd.prog 85 [.int .i64 0, .string ⟨#[]⟩] [(0, 1), (1, 1)] := BT.of (z := .agg #[.int .i64 0, .string ⟨#[]⟩]) (by kernel_rfl) (by kernel_rfl) rfl (fun w => by kernel_rfl)
theorem szf85 : (Tryd.prog.info? 85).map (·.size) = some 2 := by kernel_rfl
theorem mixed : Tryd.prog.follows .mixedOrders = true := by kernel_rfl
theorem agg85 : Agg Tryd.prog 85 2 := Agg.of (by kernel_rfl) (by kernel_rfl)
theorem fa85_1 : FA Tryd.prog 85 1 1 := FA.of (T := 9) (k := 0) (by kernel_rfl) (by kernel_rfl)
theorem fn66 : FN Tryd.prog 66 := FN.of Tryd.func66 (by kernel_rfl) (by kernel_rfl)
theorem sll22 : SlLit Tryd.prog 22 85 2 [.int .i64 0, .string ⟨#[]⟩] := SlLit.of (zv := .agg #[.int .i64 0, .string ⟨#[]⟩]) (by kernel_rfl) (by kernel_rfl) (by kernel_rfl) rfl
theorem fn50 : FN Tryd.prog 50 := FN.of Tryd.func50 (by kernel_rfl) (by kernel_rfl)
theorem fn51 : FN Tryd.prog 51 := FN.of Tryd.func51 (by kernel_rfl) (by kernel_rfl)
theorem elt22 : ElT Tryd.prog 22 85 (⟨0, []⟩ : TLine) 24 := ElT.of (zv := .agg #[.int .i64 0, .string ⟨#[]⟩]) (by kernel_rfl) (by kernel_rfl) rfl (fun w => own_flat (TLine.zok w))
theorem fn57 : FN Tryd.prog 57 := FN.of Tryd.func57 (by kernel_rfl) (by kernel_rfl)
theorem fn91 : FN Tryd.prog 91 := FN.of Tryd.func91 (by kernel_rfl) (by kernel_rfl)
theorem fn92 : FN Tryd.prog 92 := FN.of Tryd.func92 (by kernel_rfl) (by kernel_rfl)
theorem fn68 : FN Tryd.prog 68 := FN.of Tryd.func68 (by kernel_rfl) (by kernel_rfl)
theorem fn52 : FN Tryd.prog 52 := FN.of Tryd.func52 (by kernel_rfl) (by kernel_rfl)
theorem fn53 : FN Tryd.prog 53 := FN.of Tryd.func53 (by kernel_rfl) (by kernel_rfl)
theorem slu22 : Tryd.prog.underlying 22 = some (.slice 85) := by kernel_rfl
theorem fa85_0 : FA Tryd.prog 85 0 0 := FA.of (T := 3) (k := 0) (by kernel_rfl) (by kernel_rfl)
theorem sca3 : Sca Tryd.prog 3 := Sca.of (by kernel_rfl) (by kernel_rfl)
theorem slt22 : SlT Tryd.prog 22 85 2 := ⟨by kernel_rfl, by kernel_rfl⟩
theorem fn54 : FN Tryd.prog 54 := FN.of Tryd.func54 (by kernel_rfl) (by kernel_rfl)
theorem u8t5 : Tryd.prog.underlying 5 = some (.int .u8) := by kernel_rfl
theorem sll120 : SlLit Tryd.prog 120 5 1 [.int .u8 0] := SlLit.of (zv := .int .u8 0) (by kernel_rfl) (by kernel_rfl) (by kernel_rfl) rfl
theorem slu120 : Tryd.prog.underlying 120 = some (.slice 5) := by kernel_rfl
theorem szf3 : (Tryd.prog.info? 3).map (·.size) = some 1 := by kernel_rfl
theorem fn55 : FN Tryd.prog 55 := FN.of Tryd.func55 (by kernel_rfl) (by kernel_rfl)
theorem szf9 : (Tryd.prog.info? 9).map (·.size) = some 1 := by kernel_rfl
theorem fn11 : FN Tryd.prog 11 := FN.of Tryd.func11 (by kernel_rfl) (by kernel_rfl)
theorem fn12 : FN Tryd.prog 12 := FN.of Tryd.func12 (by kernel_rfl) (by kernel_rfl)
theorem fn13 : FN Tryd.prog 13 := FN.of Tryd.func13 (by kernel_rfl) (by kernel_rfl)
theorem bool4 : Tryd.prog.underlying 4 = some .bool := by kernel_rfl
theorem fn14 : FN Tryd.prog 14 := FN.of Tryd.func14 (by kernel_rfl) (by kernel_rfl)
theorem fn15 : FN Tryd.prog 15 := FN.of Tryd.func15 (by kernel_rfl) (by kernel_rfl)

end Go.Sw
