/- How arguments that read as data open, type by type. No conditions. -/
import Derived.Test.YtppjnohcfljmoaaFx
import Derived.Test.YtppjnohcfljmoaaLibR
namespace Go.Sw
open Go Go.RowKit Go.Proofs

theorem own_ : ownKnob Try.prog.godebug = none := by kernel_rfl
theorem laidOut_ : laidOutB Try.prog = true := by kernel_rfl
theorem opens9 : Opens Try.prog 9 Str := Opens.str (by kernel_rfl)
theorem len2 {l : List Value} (h : l.length = 2) : ∃ c0 c1, l = [c0, c1] := by
  match l, h with
  | [c0, c1], _ => exact ⟨_, _, rfl⟩
theorem opens40 : Opens Try.prog 40 TAddr := fun H enc W sp held fuel cs x hx => by
  have hu : Try.prog.underlying 40 = some (.struct #[⟨ "Host", 9, 0, false, "", "", 0⟩, ⟨ "Path", 9, 1, false, "", "", 16⟩]) := by kernel_rfl
  obtain ⟨hl, fuel1, hp⟩ := trod_pieces hu hx
  have hn : Try.prog.cellsOf 40 = 2 := by kernel_rfl
  rw [hn] at hl
  obtain ⟨c0, c1, rfl⟩ := len2 hl
  obtain ⟨y0, hy0⟩ := hp ⟨ "Host", 9, 0, false, "", "", 0⟩ (by simp)
  have z0 : Try.prog.cellsOf 9 = 1 := by kernel_rfl
  simp only [z0] at hy0
  obtain ⟨d0, e0, k0⟩ := opens9 _ _ _ _ _ _ _ _ hy0
  replace e0 : [c0] = [S d0] := e0
  simp only [List.cons.injEq, and_true] at e0
  obtain rfl := e0
  obtain ⟨y1, hy1⟩ := hp ⟨ "Path", 9, 1, false, "", "", 16⟩ (by simp)
  have z1 : Try.prog.cellsOf 9 = 1 := by kernel_rfl
  simp only [z1] at hy1
  obtain ⟨d1, e1, k1⟩ := opens9 _ _ _ _ _ _ _ _ hy1
  replace e1 : [c1] = [S d1] := e1
  simp only [List.cons.injEq, and_true] at e1
  obtain rfl := e1
  exact ⟨⟨d0, d1⟩, rfl, ⟨k0, k1⟩⟩
theorem opens4 : Opens Try.prog 4 Bool := Opens.bool (by kernel_rfl)
theorem len4 {l : List Value} (h : l.length = 4) : ∃ c0 c1 c2 c3, l = [c0, c1, c2, c3] := by
  match l, h with
  | [c0, c1, c2, c3], _ => exact ⟨_, _, _, _, rfl⟩
theorem opens42 : Opens Try.prog 42 TSent := fun H enc W sp held fuel cs x hx => by
  have hu : Try.prog.underlying 42 = some (.struct #[⟨ "Top", 9, 0, false, "", "", 0⟩, ⟨ "To", 40, 1, false, "", "", 16⟩, ⟨ "Guess", 4, 3, false, "", "", 48⟩]) := by kernel_rfl
  obtain ⟨hl, fuel1, hp⟩ := trod_pieces hu hx
  have hn : Try.prog.cellsOf 42 = 4 := by kernel_rfl
  rw [hn] at hl
  obtain ⟨c0, c1, c2, c3, rfl⟩ := len4 hl
  obtain ⟨y0, hy0⟩ := hp ⟨ "Top", 9, 0, false, "", "", 0⟩ (by simp)
  have z0 : Try.prog.cellsOf 9 = 1 := by kernel_rfl
  simp only [z0] at hy0
  obtain ⟨d0, e0, k0⟩ := opens9 _ _ _ _ _ _ _ _ hy0
  replace e0 : [c0] = [S d0] := e0
  simp only [List.cons.injEq, and_true] at e0
  obtain rfl := e0
  obtain ⟨y1, hy1⟩ := hp ⟨ "To", 40, 1, false, "", "", 16⟩ (by simp)
  have z1 : Try.prog.cellsOf 40 = 2 := by kernel_rfl
  simp only [z1] at hy1
  obtain ⟨d1, e1, k1⟩ := opens40 _ _ _ _ _ _ _ _ hy1
  replace e1 : [c1, c2] = [S d1.host, S d1.path] := e1
  simp only [List.cons.injEq, and_true] at e1
  obtain ⟨rfl, rfl⟩ := e1
  obtain ⟨y2, hy2⟩ := hp ⟨ "Guess", 4, 3, false, "", "", 48⟩ (by simp)
  have z2 : Try.prog.cellsOf 4 = 1 := by kernel_rfl
  simp only [z2] at hy2
  obtain ⟨d2, e2, k2⟩ := opens4 _ _ _ _ _ _ _ _ hy2
  replace e2 : [c3] = [Bo d2] := e2
  simp only [List.cons.injEq, and_true] at e2
  obtain rfl := e2
  exact ⟨⟨d0, d1, d2⟩, rfl, ⟨k0, k1, k2⟩⟩
theorem opens24 : Opens Try.prog 24 (Sl TSent) := Opens.slice (el := 42) (by kernel_rfl) (by kernel_rfl) opens42

end Go.Sw
