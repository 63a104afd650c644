/- Facts on the types and functions of this translation, each closed. No conditions. -/
import Derived.Test.YtppjnohcfljmoaaDoorRows
import Derived.Test.YtppjnohcfljmoaaDoorLibX
import Derived.Test.YtppjnohcfljmoaaDoorSh
import Derived.WalkSpells
namespace Go.Sw
open Go Go.RowKit Go.Proofs

theorem u8t5 : Tryd.prog.underlying 5 = some (.int .u8) := by kernel_rfl
theorem sll60 : SlLit Tryd.prog 60 5 1 [.int .u8 0] := SlLit.of (zv := .int .u8 0) (by kernel_rfl) (by kernel_rfl) (by kernel_rfl) rfl
theorem slu60 : Tryd.prog.underlying 60 = some (.slice 5) := by kernel_rfl
theorem str9 : Tryd.prog.underlying 9 = some .string := by kernel_rfl
theorem fn56 : FN Tryd.prog 56 := FN.of Tryd.func56 (by kernel_rfl) (by kernel_rfl)
theorem slu62 : Tryd.prog.underlying 62 = some (.slice 3) := by kernel_rfl
theorem slt62 : SlT Tryd.prog 62 3 1 := ⟨by kernel_rfl, by kernel_rfl⟩
theorem sca3 : Sca Tryd.prog 3 := Sca.of (by kernel_rfl) (by kernel_rfl)
theorem fn52 : FN Tryd.prog 52 := FN.of Tryd.func52 (by kernel_rfl) (by kernel_rfl)
theorem sll62 : SlLit Tryd.prog 62 3 1 [.int .i64 0] := SlLit.of (zv := .int .i64 0) (by kernel_rfl) (by kernel_rfl) (by kernel_rfl) rfl
theorem slt60 : SlT Tryd.prog 60 5 1 := ⟨by kernel_rfl, by kernel_rfl⟩
theorem sca5 : Sca Tryd.prog 5 := Sca.of (by kernel_rfl) (by kernel_rfl)
theorem i64t3 : Tryd.prog.underlying 3 = some (.int .i64) := by kernel_rfl
theorem elt62 : ElT Tryd.prog 62 3 (0 : Int) 8 := ElT.of (zv := .int .i64 0) (by kernel_rfl) (by kernel_rfl) rfl (fun w => own_flat (⟨by decide, by decide⟩))
theorem fn37 : FN Tryd.prog 37 := FN.of Tryd.func37 (by kernel_rfl) (by kernel_rfl)
theorem fn36 : FN Tryd.prog 36 := FN.of Tryd.func36 (by kernel_rfl) (by kernel_rfl)
theorem fn19 : FN Tryd.prog 19 := FN.of Tryd.func19 (by kernel_rfl) (by kernel_rfl)
theorem fn18 : FN Tryd.prog 18 := FN.of Tryd.func18 (by kernel_rfl) (by kernel_rfl)
theorem fn38 : FN Tryd.prog 38 := FN.of Tryd.func38 (by kernel_rfl) (by kernel_rfl)
theorem fn59 : FN Tryd.prog 59 := FN.of Tryd.func59 (by kernel_rfl) (by kernel_rfl)
theorem fn54 : FN Tryd.prog 54 := FN.of Tryd.func54 (by kernel_rfl) (by kernel_rfl)
theorem fn40 : FN Tryd.prog 40 := FN.of Tryd.func40 (by kernel_rfl) (by kernel_rfl)
theorem fn39 : FN Tryd.prog 39 := FN.of Tryd.func39 (by kernel_rfl) (by kernel_rfl)
theorem fn21 : FN Tryd.prog 21 := FN.of Tryd.func21 (by kernel_rfl) (by kernel_rfl)
theorem fn20 : FN Tryd.prog 20 := FN.of Tryd.func20 (by kernel_rfl) (by kernel_rfl)
theorem fn5 : FN Tryd.prog 5 := FN.of Tryd.func5 (by kernel_rfl) (by kernel_rfl)
theorem fn6 : FN Tryd.prog 6 := FN.of Tryd.func6 (by kernel_rfl) (by kernel_rfl)
theorem bool4 : Tryd.prog.underlying 4 = some .bool := by kernel_rfl

end Go.Sw
