/- How arguments that read as data open, type by type. No conditions. -/
import Derived.Test.YtdpifpainiiblaaGreatDoorFx
import Derived.Test.YtdpifpainiiblaaGreatDoorLibV
namespace Go.Sw
open Go Go.RowKit Go.Proofs

theorem own_ : ownKnob Tryz.prog.godebug = none := by kernel_rfl
theorem laidOut_ : laidOutB Tryz.prog = true := by kernel_rfl
theorem maxlen_ (w : World) (h : w.ShapedOpen Tryz.prog) : ∃ m, w.cell? ⟨0, 0, none⟩ = some (.int .i64 m) := Go.Proofs.cell_of_shapedOpen_int (zero := #[.int .i64 0]) (t := 3) h (of_decide_eq_true (by kernel_rfl)) (by kernel_rfl) rfl (by kernel_rfl) (by kernel_rfl) Tryz.underlying3
theorem opens5 : Opens Tryz.prog 5 UInt8 := Opens.byte (by kernel_rfl)
theorem opens22 : Opens Tryz.prog 22 (Sl UInt8) := Opens.slice (el := 5) (by kernel_rfl) (by kernel_rfl) opens5

end Go.Sw
