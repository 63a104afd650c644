/- How arguments that read as data open, type by type. No conditions. -/
import Derived.Test.YtoffmddkjddioaaFx
import Derived.Test.YtoffmddkjddioaaLibR
namespace Go.Sw
open Go Go.RowKit Go.Proofs

theorem own_ : ownKnob Try.prog.godebug = none := by kernel_rfl
theorem laidOut_ : laidOutB Try.prog = true := by kernel_rfl
theorem opens3 : Opens Try.prog 3 Int := Opens.int (by kernel_rfl)
theorem opens9 : Opens Try.prog 9 Str := Opens.str (by kernel_rfl)
theorem len2 {l : List Value} (h : l.length = 2) : ∃ c0 c1, l = [c0, c1] := by
  match l, h with
  | [c0, c1], _ => exact ⟨_, _, rfl⟩
theorem opens51 : Opens Try.prog 51 TLine := fun H enc W sp held fuel cs x hx => by
  have hu : Try.prog.underlying 51 = some (.struct #[⟨ "Op", 3, 0, false, "", "", 0⟩, ⟨ "Text", 9, 1, false, "", "", 8⟩]) := by kernel_rfl
  obtain ⟨hl, fuel1, hp⟩ := trod_pieces hu hx
  have hn : Try.prog.cellsOf 51 = 2 := by kernel_rfl
  rw [hn] at hl
  obtain ⟨c0, c1, rfl⟩ := len2 hl
  obtain ⟨y0, hy0⟩ := hp ⟨ "Op", 3, 0, false, "", "", 0⟩ (by simp)
  have z0 : Try.prog.cellsOf 3 = 1 := by kernel_rfl
  simp only [z0] at hy0
  obtain ⟨d0, e0, k0⟩ := opens3 _ _ _ _ _ _ _ _ hy0
  replace e0 : [c0] = [I d0] := e0
  simp only [List.cons.injEq, and_true] at e0
  obtain rfl := e0
  obtain ⟨y1, hy1⟩ := hp ⟨ "Text", 9, 1, false, "", "", 8⟩ (by simp)
  have z1 : Try.prog.cellsOf 9 = 1 := by kernel_rfl
  simp only [z1] at hy1
  obtain ⟨d1, e1, k1⟩ := opens9 _ _ _ _ _ _ _ _ hy1
  replace e1 : [c1] = [S d1] := e1
  simp only [List.cons.injEq, and_true] at e1
  obtain rfl := e1
  exact ⟨⟨d0, d1⟩, rfl, ⟨k0, k1⟩⟩
theorem opens22 : Opens Try.prog 22 (Sl TLine) := Opens.slice (el := 51) (by kernel_rfl) (by kernel_rfl) opens51

end Go.Sw
