/- How arguments that read as data open, type by type. No conditions. -/
import Derived.Test.YtbbcmlpmpgjhlaaDoorFx
import Derived.Test.YtbbcmlpmpgjhlaaDoorLibV
namespace Go.Sw
open Go Go.RowKit Go.Proofs

theorem own_ : ownKnob Tryd.prog.godebug = none := by kernel_rfl
theorem laidOut_ : laidOutB Tryd.prog = true := by kernel_rfl
theorem maxlen_ (w : World) (h : w.ShapedOpen Tryd.prog) : ∃ m, w.cell? ⟨0, 0, none⟩ = some (.int .i64 m) := Go.Proofs.cell_of_shapedOpen_int (zero := #[.int .i64 0]) (t := 3) h (of_decide_eq_true (by kernel_rfl)) (by kernel_rfl) rfl (by kernel_rfl) (by kernel_rfl) Tryd.underlying3
theorem opens5 : Opens Tryd.prog 5 UInt8 := Opens.byte (by kernel_rfl)
theorem opens22 : Opens Tryd.prog 22 (Sl UInt8) := Opens.slice (el := 5) (by kernel_rfl) (by kernel_rfl) opens5

end Go.Sw
