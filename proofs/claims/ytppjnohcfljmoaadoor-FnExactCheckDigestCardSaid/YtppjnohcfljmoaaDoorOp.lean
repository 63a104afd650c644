/- How arguments that read as data open, type by type. No conditions. -/
import Derived.Test.YtppjnohcfljmoaaDoorFx
import Derived.Test.YtppjnohcfljmoaaDoorLibV
namespace Go.Sw
open Go Go.RowKit Go.Proofs

theorem own_ : ownKnob Tryd.prog.godebug = none := by kernel_rfl
theorem laidOut_ : laidOutB Tryd.prog = true := by kernel_rfl
theorem maxlen_ (w : World) (h : w.ShapedOpen Tryd.prog) : ∃ m, w.cell? ⟨3, 0, none⟩ = some (.int .i64 m) := Go.Proofs.cell_of_shapedOpen_int (zero := #[.int .i64 0]) (t := 3) h (of_decide_eq_true (by kernel_rfl)) (by kernel_rfl) rfl (by kernel_rfl) (by kernel_rfl) Tryd.underlying3
theorem opens9 : Opens Tryd.prog 9 Str := Opens.str (by kernel_rfl)

end Go.Sw
