/- How arguments that read as data open, type by type. No conditions. -/
import Derived.Test.YtoffmddkjddioaaFx
import Derived.Test.YtoffmddkjddioaaLibR
namespace Go.Sw
open Go Go.RowKit Go.Proofs

theorem own_ : ownKnob Try.prog.godebug = none := by kernel_rfl
theorem laidOut_ : laidOutB Try.prog = true := by kernel_rfl
theorem opens4 : Opens Try.prog 4 Bool := Opens.bool (by kernel_rfl)
theorem opens9 : Opens Try.prog 9 Str := Opens.str (by kernel_rfl)
theorem opens29 : Opens Try.prog 29 (Sl Str) := Opens.slice (el := 9) (by kernel_rfl) (by kernel_rfl) opens9
theorem len5 {l : List Value} (h : l.length = 5) : ∃ c0 c1 c2 c3 c4, l = [c0, c1, c2, c3, c4] := by
  match l, h with
  | [c0, c1, c2, c3, c4], _ => exact ⟨_, _, _, _, _, rfl⟩
theorem opens31 : Opens Try.prog 31 PPolicy := fun H enc W sp held fuel cs x hx => by
  have hu : Try.prog.underlying 31 = some (.struct #[⟨ "Set", 4, 0, false, "", "", 0⟩, ⟨ "Scripts", 29, 1, false, "", "", 8⟩, ⟨ "Styles", 29, 2, false, "", "", 32⟩, ⟨ "Images", 29, 3, false, "", "", 56⟩, ⟨ "Nonce", 9, 4, false, "", "", 80⟩]) := by kernel_rfl
  obtain ⟨hl, fuel1, hp⟩ := trod_pieces hu hx
  have hn : Try.prog.cellsOf 31 = 5 := by kernel_rfl
  rw [hn] at hl
  obtain ⟨c0, c1, c2, c3, c4, rfl⟩ := len5 hl
  obtain ⟨y0, hy0⟩ := hp ⟨ "Set", 4, 0, false, "", "", 0⟩ (by simp)
  have z0 : Try.prog.cellsOf 4 = 1 := by kernel_rfl
  simp only [z0] at hy0
  obtain ⟨d0, e0, k0⟩ := opens4 _ _ _ _ _ _ _ _ hy0
  replace e0 : [c0] = [Bo d0] := e0
  simp only [List.cons.injEq, and_true] at e0
  obtain rfl := e0
  obtain ⟨y1, hy1⟩ := hp ⟨ "Scripts", 29, 1, false, "", "", 8⟩ (by simp)
  have z1 : Try.prog.cellsOf 29 = 1 := by kernel_rfl
  simp only [z1] at hy1
  obtain ⟨d1, e1, k1⟩ := opens29 _ _ _ _ _ _ _ _ hy1
  replace e1 : [c1] = [Sl.v d1] := e1
  simp only [List.cons.injEq, and_true] at e1
  obtain rfl := e1
  obtain ⟨y2, hy2⟩ := hp ⟨ "Styles", 29, 2, false, "", "", 32⟩ (by simp)
  have z2 : Try.prog.cellsOf 29 = 1 := by kernel_rfl
  simp only [z2] at hy2
  obtain ⟨d2, e2, k2⟩ := opens29 _ _ _ _ _ _ _ _ hy2
  replace e2 : [c2] = [Sl.v d2] := e2
  simp only [List.cons.injEq, and_true] at e2
  obtain rfl := e2
  obtain ⟨y3, hy3⟩ := hp ⟨ "Images", 29, 3, false, "", "", 56⟩ (by simp)
  have z3 : Try.prog.cellsOf 29 = 1 := by kernel_rfl
  simp only [z3] at hy3
  obtain ⟨d3, e3, k3⟩ := opens29 _ _ _ _ _ _ _ _ hy3
  replace e3 : [c3] = [Sl.v d3] := e3
  simp only [List.cons.injEq, and_true] at e3
  obtain rfl := e3
  obtain ⟨y4, hy4⟩ := hp ⟨ "Nonce", 9, 4, false, "", "", 80⟩ (by simp)
  have z4 : Try.prog.cellsOf 9 = 1 := by kernel_rfl
  simp only [z4] at hy4
  obtain ⟨d4, e4, k4⟩ := opens9 _ _ _ _ _ _ _ _ hy4
  replace e4 : [c4] = [S d4] := e4
  simp only [List.cons.injEq, and_true] at e4
  obtain rfl := e4
  exact ⟨⟨d0, d1, d2, d3, d4⟩, rfl, ⟨k0, k1, k2, k3, k4⟩⟩

end Go.Sw
