/- Facts on the types and functions of this translation, each closed. No conditions. -/
import Derived.Test.YtppjnohcfljmoaaRows
import Derived.Test.YtppjnohcfljmoaaLibS
import Derived.Test.YtppjnohcfljmoaaSc
import Derived.WalkSpells
namespace Go.Sw
open Go Go.RowKit Go.Proofs

theorem str9 : Try.prog.underlying 9 = some .string := by kernel_rfl
theorem fn5 : FN Try.prog 5 := FN.of Try.func5 (by kernel_rfl) (by kernel_rfl)
theorem fn6 : FN Try.prog 6 := FN.of Try.func6 (by kernel_rfl) (by kernel_rfl)

end Go.Sw
