/- How arguments that read as data open, type by type. No conditions. -/
import Derived.Test.YtpnmdcomdakdmaaGreatDoorFx
import Derived.Test.YtpnmdcomdakdmaaGreatDoorLibV
namespace Go.Sw
open Go Go.RowKit Go.Proofs

theorem own_ : ownKnob Tryz.prog.godebug = none := by kernel_rfl
theorem laidOut_ : laidOutB Tryz.prog = true := by kernel_rfl
theorem maxlen_ (w : World) (h : w.ShapedOpen Tryz.prog) : ∃ m, w.cell? ⟨0, 0, none⟩ = some (.int .i64 m) := Go.Proofs.cell_of_shapedOpen_int (zero := #[.int .i64 0]) (t := 3) h (of_decide_eq_true (by kernel_rfl)) (by kernel_rfl) rfl (by kernel_rfl) (by kernel_rfl) Tryz.underlying3
theorem opens9 : Opens Tryz.prog 9 Str := Opens.str (by kernel_rfl)
theorem opens3 : Opens Tryz.prog 3 Int := Opens.int (by kernel_rfl)
theorem len2 {l : List Value} (h : l.length = 2) : ∃ c0 c1, l = [c0, c1] := by
  match l, h with
  | [c0, c1], _ => exact ⟨_, _, rfl⟩
theorem opens359 : Opens Tryz.prog 359 TAttr := fun H enc W sp held fuel cs x hx => by
  have hu : Tryz.prog.underlying 359 = some (.struct #[⟨ "Name", 9, 0, false, "", "", 0⟩, ⟨ "Value", 9, 1, false, "", "", 16⟩]) := by kernel_rfl
  obtain ⟨hl, fuel1, hp⟩ := trod_pieces hu hx
  have hn : Tryz.prog.cellsOf 359 = 2 := by kernel_rfl
  rw [hn] at hl
  obtain ⟨c0, c1, rfl⟩ := len2 hl
  obtain ⟨y0, hy0⟩ := hp ⟨ "Name", 9, 0, false, "", "", 0⟩ (by simp)
  have z0 : Tryz.prog.cellsOf 9 = 1 := by kernel_rfl
  simp only [z0] at hy0
  obtain ⟨d0, e0, k0⟩ := opens9 _ _ _ _ _ _ _ _ hy0
  replace e0 : [c0] = [S d0] := e0
  simp only [List.cons.injEq, and_true] at e0
  obtain rfl := e0
  obtain ⟨y1, hy1⟩ := hp ⟨ "Value", 9, 1, false, "", "", 16⟩ (by simp)
  have z1 : Tryz.prog.cellsOf 9 = 1 := by kernel_rfl
  simp only [z1] at hy1
  obtain ⟨d1, e1, k1⟩ := opens9 _ _ _ _ _ _ _ _ hy1
  replace e1 : [c1] = [S d1] := e1
  simp only [List.cons.injEq, and_true] at e1
  obtain rfl := e1
  exact ⟨⟨d0, d1⟩, rfl, ⟨k0, k1⟩⟩
theorem opens258 : Opens Tryz.prog 258 (Sl TAttr) := Opens.slice (el := 359) (by kernel_rfl) (by kernel_rfl) opens359
theorem len4 {l : List Value} (h : l.length = 4) : ∃ c0 c1 c2 c3, l = [c0, c1, c2, c3] := by
  match l, h with
  | [c0, c1, c2, c3], _ => exact ⟨_, _, _, _, rfl⟩
theorem opens260 : Opens Tryz.prog 260 PNode := fun H enc W sp held fuel cs x hx => by
  have hu : Tryz.prog.underlying 260 = some (.struct #[⟨ "Name", 9, 0, false, "", "", 0⟩, ⟨ "Text", 9, 1, false, "", "", 16⟩, ⟨ "Parent", 3, 2, false, "", "", 32⟩, ⟨ "Attrs", 258, 3, false, "", "", 40⟩]) := by kernel_rfl
  obtain ⟨hl, fuel1, hp⟩ := trod_pieces hu hx
  have hn : Tryz.prog.cellsOf 260 = 4 := by kernel_rfl
  rw [hn] at hl
  obtain ⟨c0, c1, c2, c3, rfl⟩ := len4 hl
  obtain ⟨y0, hy0⟩ := hp ⟨ "Name", 9, 0, false, "", "", 0⟩ (by simp)
  have z0 : Tryz.prog.cellsOf 9 = 1 := by kernel_rfl
  simp only [z0] at hy0
  obtain ⟨d0, e0, k0⟩ := opens9 _ _ _ _ _ _ _ _ hy0
  replace e0 : [c0] = [S d0] := e0
  simp only [List.cons.injEq, and_true] at e0
  obtain rfl := e0
  obtain ⟨y1, hy1⟩ := hp ⟨ "Text", 9, 1, false, "", "", 16⟩ (by simp)
  have z1 : Tryz.prog.cellsOf 9 = 1 := by kernel_rfl
  simp only [z1] at hy1
  obtain ⟨d1, e1, k1⟩ := opens9 _ _ _ _ _ _ _ _ hy1
  replace e1 : [c1] = [S d1] := e1
  simp only [List.cons.injEq, and_true] at e1
  obtain rfl := e1
  obtain ⟨y2, hy2⟩ := hp ⟨ "Parent", 3, 2, false, "", "", 32⟩ (by simp)
  have z2 : Tryz.prog.cellsOf 3 = 1 := by kernel_rfl
  simp only [z2] at hy2
  obtain ⟨d2, e2, k2⟩ := opens3 _ _ _ _ _ _ _ _ hy2
  replace e2 : [c2] = [I d2] := e2
  simp only [List.cons.injEq, and_true] at e2
  obtain rfl := e2
  obtain ⟨y3, hy3⟩ := hp ⟨ "Attrs", 258, 3, false, "", "", 40⟩ (by simp)
  have z3 : Tryz.prog.cellsOf 258 = 1 := by kernel_rfl
  simp only [z3] at hy3
  obtain ⟨d3, e3, k3⟩ := opens258 _ _ _ _ _ _ _ _ hy3
  replace e3 : [c3] = [Sl.v d3] := e3
  simp only [List.cons.injEq, and_true] at e3
  obtain rfl := e3
  exact ⟨⟨d0, d1, d2, d3⟩, rfl, ⟨k0, k1, k2, k3⟩⟩
theorem opens93 : Opens Tryz.prog 93 (Sl PNode) := Opens.slice (el := 260) (by kernel_rfl) (by kernel_rfl) opens260
theorem opens62 : Opens Tryz.prog 62 (Sl Int) := Opens.slice (el := 3) (by kernel_rfl) (by kernel_rfl) opens3
theorem opens95 : Opens Tryz.prog 95 PBuilder := fun H enc W sp held fuel cs x hx => by
  have hu : Tryz.prog.underlying 95 = some (.struct #[⟨ "Nodes", 93, 0, false, "", "", 0⟩, ⟨ "Open", 62, 1, false, "", "", 24⟩]) := by kernel_rfl
  obtain ⟨hl, fuel1, hp⟩ := trod_pieces hu hx
  have hn : Tryz.prog.cellsOf 95 = 2 := by kernel_rfl
  rw [hn] at hl
  obtain ⟨c0, c1, rfl⟩ := len2 hl
  obtain ⟨y0, hy0⟩ := hp ⟨ "Nodes", 93, 0, false, "", "", 0⟩ (by simp)
  have z0 : Tryz.prog.cellsOf 93 = 1 := by kernel_rfl
  simp only [z0] at hy0
  obtain ⟨d0, e0, k0⟩ := opens93 _ _ _ _ _ _ _ _ hy0
  replace e0 : [c0] = [Sl.v d0] := e0
  simp only [List.cons.injEq, and_true] at e0
  obtain rfl := e0
  obtain ⟨y1, hy1⟩ := hp ⟨ "Open", 62, 1, false, "", "", 24⟩ (by simp)
  have z1 : Tryz.prog.cellsOf 62 = 1 := by kernel_rfl
  simp only [z1] at hy1
  obtain ⟨d1, e1, k1⟩ := opens62 _ _ _ _ _ _ _ _ hy1
  replace e1 : [c1] = [Sl.v d1] := e1
  simp only [List.cons.injEq, and_true] at e1
  obtain rfl := e1
  exact ⟨⟨d0, d1⟩, rfl, ⟨k0, k1⟩⟩
theorem opens316 : Opens Tryz.prog 316 TRule := fun H enc W sp held fuel cs x hx => by
  have hu : Tryz.prog.underlying 316 = some (.struct #[⟨ "Name", 9, 0, false, "", "", 0⟩, ⟨ "Color", 3, 1, false, "", "", 16⟩]) := by kernel_rfl
  obtain ⟨hl, fuel1, hp⟩ := trod_pieces hu hx
  have hn : Tryz.prog.cellsOf 316 = 2 := by kernel_rfl
  rw [hn] at hl
  obtain ⟨c0, c1, rfl⟩ := len2 hl
  obtain ⟨y0, hy0⟩ := hp ⟨ "Name", 9, 0, false, "", "", 0⟩ (by simp)
  have z0 : Tryz.prog.cellsOf 9 = 1 := by kernel_rfl
  simp only [z0] at hy0
  obtain ⟨d0, e0, k0⟩ := opens9 _ _ _ _ _ _ _ _ hy0
  replace e0 : [c0] = [S d0] := e0
  simp only [List.cons.injEq, and_true] at e0
  obtain rfl := e0
  obtain ⟨y1, hy1⟩ := hp ⟨ "Color", 3, 1, false, "", "", 16⟩ (by simp)
  have z1 : Tryz.prog.cellsOf 3 = 1 := by kernel_rfl
  simp only [z1] at hy1
  obtain ⟨d1, e1, k1⟩ := opens3 _ _ _ _ _ _ _ _ hy1
  replace e1 : [c1] = [I d1] := e1
  simp only [List.cons.injEq, and_true] at e1
  obtain rfl := e1
  exact ⟨⟨d0, d1⟩, rfl, ⟨k0, k1⟩⟩
theorem opens186 : Opens Tryz.prog 186 (Sl TRule) := Opens.slice (el := 316) (by kernel_rfl) (by kernel_rfl) opens316
theorem len1 {l : List Value} (h : l.length = 1) : ∃ c0, l = [c0] := by
  match l, h with
  | [c0], _ => exact ⟨_, rfl⟩
theorem opens188 : Opens Tryz.prog 188 PSheet := fun H enc W sp held fuel cs x hx => by
  have hu : Tryz.prog.underlying 188 = some (.struct #[⟨ "Rules", 186, 0, false, "", "", 0⟩]) := by kernel_rfl
  obtain ⟨hl, fuel1, hp⟩ := trod_pieces hu hx
  have hn : Tryz.prog.cellsOf 188 = 1 := by kernel_rfl
  rw [hn] at hl
  obtain ⟨c0, rfl⟩ := len1 hl
  obtain ⟨y0, hy0⟩ := hp ⟨ "Rules", 186, 0, false, "", "", 0⟩ (by simp)
  have z0 : Tryz.prog.cellsOf 186 = 1 := by kernel_rfl
  simp only [z0] at hy0
  obtain ⟨d0, e0, k0⟩ := opens186 _ _ _ _ _ _ _ _ hy0
  replace e0 : [c0] = [Sl.v d0] := e0
  simp only [List.cons.injEq, and_true] at e0
  obtain rfl := e0
  exact ⟨⟨d0⟩, rfl, ⟨k0⟩⟩
theorem opens96 : Opens Tryz.prog 96 (Sl PSheet) := Opens.slice (el := 188) (by kernel_rfl) (by kernel_rfl) opens188
theorem opens97 : Opens Tryz.prog 97 TLine := fun H enc W sp held fuel cs x hx => by
  have hu : Tryz.prog.underlying 97 = some (.struct #[⟨ "Op", 3, 0, false, "", "", 0⟩, ⟨ "Text", 9, 1, false, "", "", 8⟩]) := by kernel_rfl
  obtain ⟨hl, fuel1, hp⟩ := trod_pieces hu hx
  have hn : Tryz.prog.cellsOf 97 = 2 := by kernel_rfl
  rw [hn] at hl
  obtain ⟨c0, c1, rfl⟩ := len2 hl
  obtain ⟨y0, hy0⟩ := hp ⟨ "Op", 3, 0, false, "", "", 0⟩ (by simp)
  have z0 : Tryz.prog.cellsOf 3 = 1 := by kernel_rfl
  simp only [z0] at hy0
  obtain ⟨d0, e0, k0⟩ := opens3 _ _ _ _ _ _ _ _ hy0
  replace e0 : [c0] = [I d0] := e0
  simp only [List.cons.injEq, and_true] at e0
  obtain rfl := e0
  obtain ⟨y1, hy1⟩ := hp ⟨ "Text", 9, 1, false, "", "", 8⟩ (by simp)
  have z1 : Tryz.prog.cellsOf 9 = 1 := by kernel_rfl
  simp only [z1] at hy1
  obtain ⟨d1, e1, k1⟩ := opens9 _ _ _ _ _ _ _ _ hy1
  replace e1 : [c1] = [S d1] := e1
  simp only [List.cons.injEq, and_true] at e1
  obtain rfl := e1
  exact ⟨⟨d0, d1⟩, rfl, ⟨k0, k1⟩⟩
theorem opens126 : Opens Tryz.prog 126 (Sl TLine) := Opens.slice (el := 97) (by kernel_rfl) (by kernel_rfl) opens97

end Go.Sw
