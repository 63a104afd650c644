/- How arguments that read as data open, type by type. No conditions. -/
import Derived.Test.YthlbohgfikckfaaFx
import Derived.Test.YthlbohgfikckfaaLibR
namespace Go.Sw
open Go Go.RowKit Go.Proofs

theorem own_ : ownKnob Try.prog.godebug = none := by kernel_rfl
theorem laidOut_ : laidOutB Try.prog = true := by kernel_rfl
theorem opens9 : Opens Try.prog 9 Str := Opens.str (by kernel_rfl)
theorem len2 {l : List Value} (h : l.length = 2) : ∃ c0 c1, l = [c0, c1] := by
  match l, h with
  | [c0, c1], _ => exact ⟨_, _, rfl⟩
theorem opens23 : Opens Try.prog 23 TAddr := fun H enc W sp held fuel cs x hx => by
  have hu : Try.prog.underlying 23 = some (.struct #[⟨ "Host", 9, 0, false, "", "", 0⟩, ⟨ "Path", 9, 1, false, "", "", 16⟩]) := by kernel_rfl
  obtain ⟨hl, fuel1, hp⟩ := trod_pieces hu hx
  have hn : Try.prog.cellsOf 23 = 2 := by kernel_rfl
  rw [hn] at hl
  obtain ⟨c0, c1, rfl⟩ := len2 hl
  obtain ⟨y0, hy0⟩ := hp ⟨ "Host", 9, 0, false, "", "", 0⟩ (by simp)
  have z0 : Try.prog.cellsOf 9 = 1 := by kernel_rfl
  simp only [z0] at hy0
  obtain ⟨d0, e0, k0⟩ := opens9 _ _ _ _ _ _ _ _ hy0
  replace e0 : [c0] = [S d0] := e0
  simp only [List.cons.injEq, and_true] at e0
  obtain rfl := e0
  obtain ⟨y1, hy1⟩ := hp ⟨ "Path", 9, 1, false, "", "", 16⟩ (by simp)
  have z1 : Try.prog.cellsOf 9 = 1 := by kernel_rfl
  simp only [z1] at hy1
  obtain ⟨d1, e1, k1⟩ := opens9 _ _ _ _ _ _ _ _ hy1
  replace e1 : [c1] = [S d1] := e1
  simp only [List.cons.injEq, and_true] at e1
  obtain rfl := e1
  exact ⟨⟨d0, d1⟩, rfl, ⟨k0, k1⟩⟩
theorem opens4 : Opens Try.prog 4 Bool := Opens.bool (by kernel_rfl)
theorem opens24 : Opens Try.prog 24 (Sl Str) := Opens.slice (el := 9) (by kernel_rfl) (by kernel_rfl) opens9
theorem len5 {l : List Value} (h : l.length = 5) : ∃ c0 c1 c2 c3 c4, l = [c0, c1, c2, c3, c4] := by
  match l, h with
  | [c0, c1, c2, c3, c4], _ => exact ⟨_, _, _, _, _, rfl⟩
theorem opens26 : Opens Try.prog 26 PPolicy := fun H enc W sp held fuel cs x hx => by
  have hu : Try.prog.underlying 26 = some (.struct #[⟨ "Set", 4, 0, false, "", "", 0⟩, ⟨ "Scripts", 24, 1, false, "", "", 8⟩, ⟨ "Styles", 24, 2, false, "", "", 32⟩, ⟨ "Images", 24, 3, false, "", "", 56⟩, ⟨ "Nonce", 9, 4, false, "", "", 80⟩]) := by kernel_rfl
  obtain ⟨hl, fuel1, hp⟩ := trod_pieces hu hx
  have hn : Try.prog.cellsOf 26 = 5 := by kernel_rfl
  rw [hn] at hl
  obtain ⟨c0, c1, c2, c3, c4, rfl⟩ := len5 hl
  obtain ⟨y0, hy0⟩ := hp ⟨ "Set", 4, 0, false, "", "", 0⟩ (by simp)
  have z0 : Try.prog.cellsOf 4 = 1 := by kernel_rfl
  simp only [z0] at hy0
  obtain ⟨d0, e0, k0⟩ := opens4 _ _ _ _ _ _ _ _ hy0
  replace e0 : [c0] = [Bo d0] := e0
  simp only [List.cons.injEq, and_true] at e0
  obtain rfl := e0
  obtain ⟨y1, hy1⟩ := hp ⟨ "Scripts", 24, 1, false, "", "", 8⟩ (by simp)
  have z1 : Try.prog.cellsOf 24 = 1 := by kernel_rfl
  simp only [z1] at hy1
  obtain ⟨d1, e1, k1⟩ := opens24 _ _ _ _ _ _ _ _ hy1
  replace e1 : [c1] = [Sl.v d1] := e1
  simp only [List.cons.injEq, and_true] at e1
  obtain rfl := e1
  obtain ⟨y2, hy2⟩ := hp ⟨ "Styles", 24, 2, false, "", "", 32⟩ (by simp)
  have z2 : Try.prog.cellsOf 24 = 1 := by kernel_rfl
  simp only [z2] at hy2
  obtain ⟨d2, e2, k2⟩ := opens24 _ _ _ _ _ _ _ _ hy2
  replace e2 : [c2] = [Sl.v d2] := e2
  simp only [List.cons.injEq, and_true] at e2
  obtain rfl := e2
  obtain ⟨y3, hy3⟩ := hp ⟨ "Images", 24, 3, false, "", "", 56⟩ (by simp)
  have z3 : Try.prog.cellsOf 24 = 1 := by kernel_rfl
  simp only [z3] at hy3
  obtain ⟨d3, e3, k3⟩ := opens24 _ _ _ _ _ _ _ _ hy3
  replace e3 : [c3] = [Sl.v d3] := e3
  simp only [List.cons.injEq, and_true] at e3
  obtain rfl := e3
  obtain ⟨y4, hy4⟩ := hp ⟨ "Nonce", 9, 4, false, "", "", 80⟩ (by simp)
  have z4 : Try.prog.cellsOf 9 = 1 := by kernel_rfl
  simp only [z4] at hy4
  obtain ⟨d4, e4, k4⟩ := opens9 _ _ _ _ _ _ _ _ hy4
  replace e4 : [c4] = [S d4] := e4
  simp only [List.cons.injEq, and_true] at e4
  obtain rfl := e4
  exact ⟨⟨d0, d1, d2, d3, d4⟩, rfl, ⟨k0, k1, k2, k3, k4⟩⟩
theorem len1 {l : List Value} (h : l.length = 1) : ∃ c0, l = [c0] := by
  match l, h with
  | [c0], _ => exact ⟨_, rfl⟩
theorem opens28 : Opens Try.prog 28 TTokenizer := fun H enc W sp held fuel cs x hx => by
  have hu : Try.prog.underlying 28 = some (.struct #[⟨ "Rest", 9, 0, false, "", "", 0⟩]) := by kernel_rfl
  obtain ⟨hl, fuel1, hp⟩ := trod_pieces hu hx
  have hn : Try.prog.cellsOf 28 = 1 := by kernel_rfl
  rw [hn] at hl
  obtain ⟨c0, rfl⟩ := len1 hl
  obtain ⟨y0, hy0⟩ := hp ⟨ "Rest", 9, 0, false, "", "", 0⟩ (by simp)
  have z0 : Try.prog.cellsOf 9 = 1 := by kernel_rfl
  simp only [z0] at hy0
  obtain ⟨d0, e0, k0⟩ := opens9 _ _ _ _ _ _ _ _ hy0
  replace e0 : [c0] = [S d0] := e0
  simp only [List.cons.injEq, and_true] at e0
  obtain rfl := e0
  exact ⟨⟨d0⟩, rfl, ⟨k0⟩⟩
theorem opens3 : Opens Try.prog 3 Int := Opens.int (by kernel_rfl)
theorem opens127 : Opens Try.prog 127 TAttr := fun H enc W sp held fuel cs x hx => by
  have hu : Try.prog.underlying 127 = some (.struct #[⟨ "Name", 9, 0, false, "", "", 0⟩, ⟨ "Value", 9, 1, false, "", "", 16⟩]) := by kernel_rfl
  obtain ⟨hl, fuel1, hp⟩ := trod_pieces hu hx
  have hn : Try.prog.cellsOf 127 = 2 := by kernel_rfl
  rw [hn] at hl
  obtain ⟨c0, c1, rfl⟩ := len2 hl
  obtain ⟨y0, hy0⟩ := hp ⟨ "Name", 9, 0, false, "", "", 0⟩ (by simp)
  have z0 : Try.prog.cellsOf 9 = 1 := by kernel_rfl
  simp only [z0] at hy0
  obtain ⟨d0, e0, k0⟩ := opens9 _ _ _ _ _ _ _ _ hy0
  replace e0 : [c0] = [S d0] := e0
  simp only [List.cons.injEq, and_true] at e0
  obtain rfl := e0
  obtain ⟨y1, hy1⟩ := hp ⟨ "Value", 9, 1, false, "", "", 16⟩ (by simp)
  have z1 : Try.prog.cellsOf 9 = 1 := by kernel_rfl
  simp only [z1] at hy1
  obtain ⟨d1, e1, k1⟩ := opens9 _ _ _ _ _ _ _ _ hy1
  replace e1 : [c1] = [S d1] := e1
  simp only [List.cons.injEq, and_true] at e1
  obtain rfl := e1
  exact ⟨⟨d0, d1⟩, rfl, ⟨k0, k1⟩⟩
theorem opens92 : Opens Try.prog 92 (Sl TAttr) := Opens.slice (el := 127) (by kernel_rfl) (by kernel_rfl) opens127
theorem len4 {l : List Value} (h : l.length = 4) : ∃ c0 c1 c2 c3, l = [c0, c1, c2, c3] := by
  match l, h with
  | [c0, c1, c2, c3], _ => exact ⟨_, _, _, _, rfl⟩
theorem opens94 : Opens Try.prog 94 PToken := fun H enc W sp held fuel cs x hx => by
  have hu : Try.prog.underlying 94 = some (.struct #[⟨ "Kind", 3, 0, false, "", "", 0⟩, ⟨ "Name", 9, 1, false, "", "", 8⟩, ⟨ "Attrs", 92, 2, false, "", "", 24⟩, ⟨ "Text", 9, 3, false, "", "", 48⟩]) := by kernel_rfl
  obtain ⟨hl, fuel1, hp⟩ := trod_pieces hu hx
  have hn : Try.prog.cellsOf 94 = 4 := by kernel_rfl
  rw [hn] at hl
  obtain ⟨c0, c1, c2, c3, rfl⟩ := len4 hl
  obtain ⟨y0, hy0⟩ := hp ⟨ "Kind", 3, 0, false, "", "", 0⟩ (by simp)
  have z0 : Try.prog.cellsOf 3 = 1 := by kernel_rfl
  simp only [z0] at hy0
  obtain ⟨d0, e0, k0⟩ := opens3 _ _ _ _ _ _ _ _ hy0
  replace e0 : [c0] = [I d0] := e0
  simp only [List.cons.injEq, and_true] at e0
  obtain rfl := e0
  obtain ⟨y1, hy1⟩ := hp ⟨ "Name", 9, 1, false, "", "", 8⟩ (by simp)
  have z1 : Try.prog.cellsOf 9 = 1 := by kernel_rfl
  simp only [z1] at hy1
  obtain ⟨d1, e1, k1⟩ := opens9 _ _ _ _ _ _ _ _ hy1
  replace e1 : [c1] = [S d1] := e1
  simp only [List.cons.injEq, and_true] at e1
  obtain rfl := e1
  obtain ⟨y2, hy2⟩ := hp ⟨ "Attrs", 92, 2, false, "", "", 24⟩ (by simp)
  have z2 : Try.prog.cellsOf 92 = 1 := by kernel_rfl
  simp only [z2] at hy2
  obtain ⟨d2, e2, k2⟩ := opens92 _ _ _ _ _ _ _ _ hy2
  replace e2 : [c2] = [Sl.v d2] := e2
  simp only [List.cons.injEq, and_true] at e2
  obtain rfl := e2
  obtain ⟨y3, hy3⟩ := hp ⟨ "Text", 9, 3, false, "", "", 48⟩ (by simp)
  have z3 : Try.prog.cellsOf 9 = 1 := by kernel_rfl
  simp only [z3] at hy3
  obtain ⟨d3, e3, k3⟩ := opens9 _ _ _ _ _ _ _ _ hy3
  replace e3 : [c3] = [S d3] := e3
  simp only [List.cons.injEq, and_true] at e3
  obtain rfl := e3
  exact ⟨⟨d0, d1, d2, d3⟩, rfl, ⟨k0, k1, k2, k3⟩⟩
theorem opens29 : Opens Try.prog 29 (Sl PToken) := Opens.slice (el := 94) (by kernel_rfl) (by kernel_rfl) opens94
theorem opens123 : Opens Try.prog 123 PNode := fun H enc W sp held fuel cs x hx => by
  have hu : Try.prog.underlying 123 = some (.struct #[⟨ "Name", 9, 0, false, "", "", 0⟩, ⟨ "Text", 9, 1, false, "", "", 16⟩, ⟨ "Parent", 3, 2, false, "", "", 32⟩, ⟨ "Attrs", 92, 3, false, "", "", 40⟩]) := by kernel_rfl
  obtain ⟨hl, fuel1, hp⟩ := trod_pieces hu hx
  have hn : Try.prog.cellsOf 123 = 4 := by kernel_rfl
  rw [hn] at hl
  obtain ⟨c0, c1, c2, c3, rfl⟩ := len4 hl
  obtain ⟨y0, hy0⟩ := hp ⟨ "Name", 9, 0, false, "", "", 0⟩ (by simp)
  have z0 : Try.prog.cellsOf 9 = 1 := by kernel_rfl
  simp only [z0] at hy0
  obtain ⟨d0, e0, k0⟩ := opens9 _ _ _ _ _ _ _ _ hy0
  replace e0 : [c0] = [S d0] := e0
  simp only [List.cons.injEq, and_true] at e0
  obtain rfl := e0
  obtain ⟨y1, hy1⟩ := hp ⟨ "Text", 9, 1, false, "", "", 16⟩ (by simp)
  have z1 : Try.prog.cellsOf 9 = 1 := by kernel_rfl
  simp only [z1] at hy1
  obtain ⟨d1, e1, k1⟩ := opens9 _ _ _ _ _ _ _ _ hy1
  replace e1 : [c1] = [S d1] := e1
  simp only [List.cons.injEq, and_true] at e1
  obtain rfl := e1
  obtain ⟨y2, hy2⟩ := hp ⟨ "Parent", 3, 2, false, "", "", 32⟩ (by simp)
  have z2 : Try.prog.cellsOf 3 = 1 := by kernel_rfl
  simp only [z2] at hy2
  obtain ⟨d2, e2, k2⟩ := opens3 _ _ _ _ _ _ _ _ hy2
  replace e2 : [c2] = [I d2] := e2
  simp only [List.cons.injEq, and_true] at e2
  obtain rfl := e2
  obtain ⟨y3, hy3⟩ := hp ⟨ "Attrs", 92, 3, false, "", "", 40⟩ (by simp)
  have z3 : Try.prog.cellsOf 92 = 1 := by kernel_rfl
  simp only [z3] at hy3
  obtain ⟨d3, e3, k3⟩ := opens92 _ _ _ _ _ _ _ _ hy3
  replace e3 : [c3] = [Sl.v d3] := e3
  simp only [List.cons.injEq, and_true] at e3
  obtain rfl := e3
  exact ⟨⟨d0, d1, d2, d3⟩, rfl, ⟨k0, k1, k2, k3⟩⟩
theorem opens30 : Opens Try.prog 30 (Sl PNode) := Opens.slice (el := 123) (by kernel_rfl) (by kernel_rfl) opens123
theorem opens31 : Opens Try.prog 31 (Sl Int) := Opens.slice (el := 3) (by kernel_rfl) (by kernel_rfl) opens3
theorem opens33 : Opens Try.prog 33 PBuilder := fun H enc W sp held fuel cs x hx => by
  have hu : Try.prog.underlying 33 = some (.struct #[⟨ "Nodes", 30, 0, false, "", "", 0⟩, ⟨ "Open", 31, 1, false, "", "", 24⟩]) := by kernel_rfl
  obtain ⟨hl, fuel1, hp⟩ := trod_pieces hu hx
  have hn : Try.prog.cellsOf 33 = 2 := by kernel_rfl
  rw [hn] at hl
  obtain ⟨c0, c1, rfl⟩ := len2 hl
  obtain ⟨y0, hy0⟩ := hp ⟨ "Nodes", 30, 0, false, "", "", 0⟩ (by simp)
  have z0 : Try.prog.cellsOf 30 = 1 := by kernel_rfl
  simp only [z0] at hy0
  obtain ⟨d0, e0, k0⟩ := opens30 _ _ _ _ _ _ _ _ hy0
  replace e0 : [c0] = [Sl.v d0] := e0
  simp only [List.cons.injEq, and_true] at e0
  obtain rfl := e0
  obtain ⟨y1, hy1⟩ := hp ⟨ "Open", 31, 1, false, "", "", 24⟩ (by simp)
  have z1 : Try.prog.cellsOf 31 = 1 := by kernel_rfl
  simp only [z1] at hy1
  obtain ⟨d1, e1, k1⟩ := opens31 _ _ _ _ _ _ _ _ hy1
  replace e1 : [c1] = [Sl.v d1] := e1
  simp only [List.cons.injEq, and_true] at e1
  obtain rfl := e1
  exact ⟨⟨d0, d1⟩, rfl, ⟨k0, k1⟩⟩
theorem len8 {l : List Value} (h : l.length = 8) : ∃ c0 c1 c2 c3 c4 c5 c6 c7, l = [c0, c1, c2, c3, c4, c5, c6, c7] := by
  match l, h with
  | [c0, c1, c2, c3, c4, c5, c6, c7], _ => exact ⟨_, _, _, _, _, _, _, _, rfl⟩
theorem opens99 : Opens Try.prog 99 TSlot := fun H enc W sp held fuel cs x hx => by
  have hu : Try.prog.underlying 99 = some (.struct #[⟨ "Mode", 3, 0, false, "", "", 0⟩, ⟨ "To", 23, 1, false, "", "", 8⟩, ⟨ "Digest", 9, 3, false, "", "", 40⟩, ⟨ "Node", 3, 4, false, "", "", 56⟩, ⟨ "Done", 4, 5, false, "", "", 64⟩, ⟨ "Code", 3, 6, false, "", "", 72⟩, ⟨ "Body", 9, 7, false, "", "", 80⟩]) := by kernel_rfl
  obtain ⟨hl, fuel1, hp⟩ := trod_pieces hu hx
  have hn : Try.prog.cellsOf 99 = 8 := by kernel_rfl
  rw [hn] at hl
  obtain ⟨c0, c1, c2, c3, c4, c5, c6, c7, rfl⟩ := len8 hl
  obtain ⟨y0, hy0⟩ := hp ⟨ "Mode", 3, 0, false, "", "", 0⟩ (by simp)
  have z0 : Try.prog.cellsOf 3 = 1 := by kernel_rfl
  simp only [z0] at hy0
  obtain ⟨d0, e0, k0⟩ := opens3 _ _ _ _ _ _ _ _ hy0
  replace e0 : [c0] = [I d0] := e0
  simp only [List.cons.injEq, and_true] at e0
  obtain rfl := e0
  obtain ⟨y1, hy1⟩ := hp ⟨ "To", 23, 1, false, "", "", 8⟩ (by simp)
  have z1 : Try.prog.cellsOf 23 = 2 := by kernel_rfl
  simp only [z1] at hy1
  obtain ⟨d1, e1, k1⟩ := opens23 _ _ _ _ _ _ _ _ hy1
  replace e1 : [c1, c2] = [S d1.host, S d1.path] := e1
  simp only [List.cons.injEq, and_true] at e1
  obtain ⟨rfl, rfl⟩ := e1
  obtain ⟨y2, hy2⟩ := hp ⟨ "Digest", 9, 3, false, "", "", 40⟩ (by simp)
  have z2 : Try.prog.cellsOf 9 = 1 := by kernel_rfl
  simp only [z2] at hy2
  obtain ⟨d2, e2, k2⟩ := opens9 _ _ _ _ _ _ _ _ hy2
  replace e2 : [c3] = [S d2] := e2
  simp only [List.cons.injEq, and_true] at e2
  obtain rfl := e2
  obtain ⟨y3, hy3⟩ := hp ⟨ "Node", 3, 4, false, "", "", 56⟩ (by simp)
  have z3 : Try.prog.cellsOf 3 = 1 := by kernel_rfl
  simp only [z3] at hy3
  obtain ⟨d3, e3, k3⟩ := opens3 _ _ _ _ _ _ _ _ hy3
  replace e3 : [c4] = [I d3] := e3
  simp only [List.cons.injEq, and_true] at e3
  obtain rfl := e3
  obtain ⟨y4, hy4⟩ := hp ⟨ "Done", 4, 5, false, "", "", 64⟩ (by simp)
  have z4 : Try.prog.cellsOf 4 = 1 := by kernel_rfl
  simp only [z4] at hy4
  obtain ⟨d4, e4, k4⟩ := opens4 _ _ _ _ _ _ _ _ hy4
  replace e4 : [c5] = [Bo d4] := e4
  simp only [List.cons.injEq, and_true] at e4
  obtain rfl := e4
  obtain ⟨y5, hy5⟩ := hp ⟨ "Code", 3, 6, false, "", "", 72⟩ (by simp)
  have z5 : Try.prog.cellsOf 3 = 1 := by kernel_rfl
  simp only [z5] at hy5
  obtain ⟨d5, e5, k5⟩ := opens3 _ _ _ _ _ _ _ _ hy5
  replace e5 : [c6] = [I d5] := e5
  simp only [List.cons.injEq, and_true] at e5
  obtain rfl := e5
  obtain ⟨y6, hy6⟩ := hp ⟨ "Body", 9, 7, false, "", "", 80⟩ (by simp)
  have z6 : Try.prog.cellsOf 9 = 1 := by kernel_rfl
  simp only [z6] at hy6
  obtain ⟨d6, e6, k6⟩ := opens9 _ _ _ _ _ _ _ _ hy6
  replace e6 : [c7] = [S d6] := e6
  simp only [List.cons.injEq, and_true] at e6
  obtain rfl := e6
  exact ⟨⟨d0, d1, d2, d3, d4, d5, d6⟩, rfl, ⟨k0, k1, k2, k3, k4, k5, k6⟩⟩
theorem opens34 : Opens Try.prog 34 (Sl TSlot) := Opens.slice (el := 99) (by kernel_rfl) (by kernel_rfl) opens99
theorem opens102 : Opens Try.prog 102 TModule := fun H enc W sp held fuel cs x hx => by
  have hu : Try.prog.underlying 102 = some (.struct #[⟨ "To", 23, 0, false, "", "", 0⟩, ⟨ "Done", 4, 2, false, "", "", 32⟩, ⟨ "Code", 3, 3, false, "", "", 40⟩, ⟨ "Body", 9, 4, false, "", "", 48⟩]) := by kernel_rfl
  obtain ⟨hl, fuel1, hp⟩ := trod_pieces hu hx
  have hn : Try.prog.cellsOf 102 = 5 := by kernel_rfl
  rw [hn] at hl
  obtain ⟨c0, c1, c2, c3, c4, rfl⟩ := len5 hl
  obtain ⟨y0, hy0⟩ := hp ⟨ "To", 23, 0, false, "", "", 0⟩ (by simp)
  have z0 : Try.prog.cellsOf 23 = 2 := by kernel_rfl
  simp only [z0] at hy0
  obtain ⟨d0, e0, k0⟩ := opens23 _ _ _ _ _ _ _ _ hy0
  replace e0 : [c0, c1] = [S d0.host, S d0.path] := e0
  simp only [List.cons.injEq, and_true] at e0
  obtain ⟨rfl, rfl⟩ := e0
  obtain ⟨y1, hy1⟩ := hp ⟨ "Done", 4, 2, false, "", "", 32⟩ (by simp)
  have z1 : Try.prog.cellsOf 4 = 1 := by kernel_rfl
  simp only [z1] at hy1
  obtain ⟨d1, e1, k1⟩ := opens4 _ _ _ _ _ _ _ _ hy1
  replace e1 : [c2] = [Bo d1] := e1
  simp only [List.cons.injEq, and_true] at e1
  obtain rfl := e1
  obtain ⟨y2, hy2⟩ := hp ⟨ "Code", 3, 3, false, "", "", 40⟩ (by simp)
  have z2 : Try.prog.cellsOf 3 = 1 := by kernel_rfl
  simp only [z2] at hy2
  obtain ⟨d2, e2, k2⟩ := opens3 _ _ _ _ _ _ _ _ hy2
  replace e2 : [c3] = [I d2] := e2
  simp only [List.cons.injEq, and_true] at e2
  obtain rfl := e2
  obtain ⟨y3, hy3⟩ := hp ⟨ "Body", 9, 4, false, "", "", 48⟩ (by simp)
  have z3 : Try.prog.cellsOf 9 = 1 := by kernel_rfl
  simp only [z3] at hy3
  obtain ⟨d3, e3, k3⟩ := opens9 _ _ _ _ _ _ _ _ hy3
  replace e3 : [c4] = [S d3] := e3
  simp only [List.cons.injEq, and_true] at e3
  obtain rfl := e3
  exact ⟨⟨d0, d1, d2, d3⟩, rfl, ⟨k0, k1, k2, k3⟩⟩
theorem opens35 : Opens Try.prog 35 (Sl TModule) := Opens.slice (el := 102) (by kernel_rfl) (by kernel_rfl) opens102
theorem opens36 : Opens Try.prog 36 (Sl TAddr) := Opens.slice (el := 23) (by kernel_rfl) (by kernel_rfl) opens23
theorem len22 {l : List Value} (h : l.length = 22) : ∃ c0 c1 c2 c3 c4 c5 c6 c7 c8 c9 c10 c11 c12 c13 c14 c15 c16 c17 c18 c19 c20 c21, l = [c0, c1, c2, c3, c4, c5, c6, c7, c8, c9, c10, c11, c12, c13, c14, c15, c16, c17, c18, c19, c20, c21] := by
  match l, h with
  | [c0, c1, c2, c3, c4, c5, c6, c7, c8, c9, c10, c11, c12, c13, c14, c15, c16, c17, c18, c19, c20, c21], _ => exact ⟨_, _, _, _, _, _, _, _, _, _, _, _, _, _, _, _, _, _, _, _, _, _, rfl⟩
theorem opens38 : Opens Try.prog 38 PPage := fun H enc W sp held fuel cs x hx => by
  have hu : Try.prog.underlying 38 = some (.struct #[⟨ "Addr", 23, 0, false, "", "", 0⟩, ⟨ "Policy", 26, 2, false, "", "", 32⟩, ⟨ "Tok", 28, 7, false, "", "", 128⟩, ⟨ "Queue", 29, 8, false, "", "", 144⟩, ⟨ "Ended", 4, 9, false, "", "", 168⟩, ⟨ "Builder", 33, 10, false, "", "", 176⟩, ⟨ "Slots", 34, 12, false, "", "", 224⟩, ⟨ "Mods", 35, 13, false, "", "", 248⟩, ⟨ "Entries", 36, 14, false, "", "", 272⟩, ⟨ "Block", 3, 15, false, "", "", 296⟩, ⟨ "Inline", 3, 16, false, "", "", 304⟩, ⟨ "Deferred", 3, 17, false, "", "", 312⟩, ⟨ "Entered", 3, 18, false, "", "", 320⟩, ⟨ "Ran", 36, 19, false, "", "", 328⟩, ⟨ "Log", 24, 20, false, "", "", 352⟩, ⟨ "Loaded", 4, 21, false, "", "", 376⟩]) := by kernel_rfl
  obtain ⟨hl, fuel1, hp⟩ := trod_pieces hu hx
  have hn : Try.prog.cellsOf 38 = 22 := by kernel_rfl
  rw [hn] at hl
  obtain ⟨c0, c1, c2, c3, c4, c5, c6, c7, c8, c9, c10, c11, c12, c13, c14, c15, c16, c17, c18, c19, c20, c21, rfl⟩ := len22 hl
  obtain ⟨y0, hy0⟩ := hp ⟨ "Addr", 23, 0, false, "", "", 0⟩ (by simp)
  have z0 : Try.prog.cellsOf 23 = 2 := by kernel_rfl
  simp only [z0] at hy0
  obtain ⟨d0, e0, k0⟩ := opens23 _ _ _ _ _ _ _ _ hy0
  replace e0 : [c0, c1] = [S d0.host, S d0.path] := e0
  simp only [List.cons.injEq, and_true] at e0
  obtain ⟨rfl, rfl⟩ := e0
  obtain ⟨y1, hy1⟩ := hp ⟨ "Policy", 26, 2, false, "", "", 32⟩ (by simp)
  have z1 : Try.prog.cellsOf 26 = 5 := by kernel_rfl
  simp only [z1] at hy1
  obtain ⟨d1, e1, k1⟩ := opens26 _ _ _ _ _ _ _ _ hy1
  replace e1 : [c2, c3, c4, c5, c6] = [Bo d1.set, Sl.v d1.scripts, Sl.v d1.styles, Sl.v d1.images, S d1.nonce] := e1
  simp only [List.cons.injEq, and_true] at e1
  obtain ⟨rfl, rfl, rfl, rfl, rfl⟩ := e1
  obtain ⟨y2, hy2⟩ := hp ⟨ "Tok", 28, 7, false, "", "", 128⟩ (by simp)
  have z2 : Try.prog.cellsOf 28 = 1 := by kernel_rfl
  simp only [z2] at hy2
  obtain ⟨d2, e2, k2⟩ := opens28 _ _ _ _ _ _ _ _ hy2
  replace e2 : [c7] = [S d2.rest] := e2
  simp only [List.cons.injEq, and_true] at e2
  obtain rfl := e2
  obtain ⟨y3, hy3⟩ := hp ⟨ "Queue", 29, 8, false, "", "", 144⟩ (by simp)
  have z3 : Try.prog.cellsOf 29 = 1 := by kernel_rfl
  simp only [z3] at hy3
  obtain ⟨d3, e3, k3⟩ := opens29 _ _ _ _ _ _ _ _ hy3
  replace e3 : [c8] = [Sl.v d3] := e3
  simp only [List.cons.injEq, and_true] at e3
  obtain rfl := e3
  obtain ⟨y4, hy4⟩ := hp ⟨ "Ended", 4, 9, false, "", "", 168⟩ (by simp)
  have z4 : Try.prog.cellsOf 4 = 1 := by kernel_rfl
  simp only [z4] at hy4
  obtain ⟨d4, e4, k4⟩ := opens4 _ _ _ _ _ _ _ _ hy4
  replace e4 : [c9] = [Bo d4] := e4
  simp only [List.cons.injEq, and_true] at e4
  obtain rfl := e4
  obtain ⟨y5, hy5⟩ := hp ⟨ "Builder", 33, 10, false, "", "", 176⟩ (by simp)
  have z5 : Try.prog.cellsOf 33 = 2 := by kernel_rfl
  simp only [z5] at hy5
  obtain ⟨d5, e5, k5⟩ := opens33 _ _ _ _ _ _ _ _ hy5
  replace e5 : [c10, c11] = [Sl.v d5.nodes, Sl.v d5.opn] := e5
  simp only [List.cons.injEq, and_true] at e5
  obtain ⟨rfl, rfl⟩ := e5
  obtain ⟨y6, hy6⟩ := hp ⟨ "Slots", 34, 12, false, "", "", 224⟩ (by simp)
  have z6 : Try.prog.cellsOf 34 = 1 := by kernel_rfl
  simp only [z6] at hy6
  obtain ⟨d6, e6, k6⟩ := opens34 _ _ _ _ _ _ _ _ hy6
  replace e6 : [c12] = [Sl.v d6] := e6
  simp only [List.cons.injEq, and_true] at e6
  obtain rfl := e6
  obtain ⟨y7, hy7⟩ := hp ⟨ "Mods", 35, 13, false, "", "", 248⟩ (by simp)
  have z7 : Try.prog.cellsOf 35 = 1 := by kernel_rfl
  simp only [z7] at hy7
  obtain ⟨d7, e7, k7⟩ := opens35 _ _ _ _ _ _ _ _ hy7
  replace e7 : [c13] = [Sl.v d7] := e7
  simp only [List.cons.injEq, and_true] at e7
  obtain rfl := e7
  obtain ⟨y8, hy8⟩ := hp ⟨ "Entries", 36, 14, false, "", "", 272⟩ (by simp)
  have z8 : Try.prog.cellsOf 36 = 1 := by kernel_rfl
  simp only [z8] at hy8
  obtain ⟨d8, e8, k8⟩ := opens36 _ _ _ _ _ _ _ _ hy8
  replace e8 : [c14] = [Sl.v d8] := e8
  simp only [List.cons.injEq, and_true] at e8
  obtain rfl := e8
  obtain ⟨y9, hy9⟩ := hp ⟨ "Block", 3, 15, false, "", "", 296⟩ (by simp)
  have z9 : Try.prog.cellsOf 3 = 1 := by kernel_rfl
  simp only [z9] at hy9
  obtain ⟨d9, e9, k9⟩ := opens3 _ _ _ _ _ _ _ _ hy9
  replace e9 : [c15] = [I d9] := e9
  simp only [List.cons.injEq, and_true] at e9
  obtain rfl := e9
  obtain ⟨y10, hy10⟩ := hp ⟨ "Inline", 3, 16, false, "", "", 304⟩ (by simp)
  have z10 : Try.prog.cellsOf 3 = 1 := by kernel_rfl
  simp only [z10] at hy10
  obtain ⟨d10, e10, k10⟩ := opens3 _ _ _ _ _ _ _ _ hy10
  replace e10 : [c16] = [I d10] := e10
  simp only [List.cons.injEq, and_true] at e10
  obtain rfl := e10
  obtain ⟨y11, hy11⟩ := hp ⟨ "Deferred", 3, 17, false, "", "", 312⟩ (by simp)
  have z11 : Try.prog.cellsOf 3 = 1 := by kernel_rfl
  simp only [z11] at hy11
  obtain ⟨d11, e11, k11⟩ := opens3 _ _ _ _ _ _ _ _ hy11
  replace e11 : [c17] = [I d11] := e11
  simp only [List.cons.injEq, and_true] at e11
  obtain rfl := e11
  obtain ⟨y12, hy12⟩ := hp ⟨ "Entered", 3, 18, false, "", "", 320⟩ (by simp)
  have z12 : Try.prog.cellsOf 3 = 1 := by kernel_rfl
  simp only [z12] at hy12
  obtain ⟨d12, e12, k12⟩ := opens3 _ _ _ _ _ _ _ _ hy12
  replace e12 : [c18] = [I d12] := e12
  simp only [List.cons.injEq, and_true] at e12
  obtain rfl := e12
  obtain ⟨y13, hy13⟩ := hp ⟨ "Ran", 36, 19, false, "", "", 328⟩ (by simp)
  have z13 : Try.prog.cellsOf 36 = 1 := by kernel_rfl
  simp only [z13] at hy13
  obtain ⟨d13, e13, k13⟩ := opens36 _ _ _ _ _ _ _ _ hy13
  replace e13 : [c19] = [Sl.v d13] := e13
  simp only [List.cons.injEq, and_true] at e13
  obtain rfl := e13
  obtain ⟨y14, hy14⟩ := hp ⟨ "Log", 24, 20, false, "", "", 352⟩ (by simp)
  have z14 : Try.prog.cellsOf 24 = 1 := by kernel_rfl
  simp only [z14] at hy14
  obtain ⟨d14, e14, k14⟩ := opens24 _ _ _ _ _ _ _ _ hy14
  replace e14 : [c20] = [Sl.v d14] := e14
  simp only [List.cons.injEq, and_true] at e14
  obtain rfl := e14
  obtain ⟨y15, hy15⟩ := hp ⟨ "Loaded", 4, 21, false, "", "", 376⟩ (by simp)
  have z15 : Try.prog.cellsOf 4 = 1 := by kernel_rfl
  simp only [z15] at hy15
  obtain ⟨d15, e15, k15⟩ := opens4 _ _ _ _ _ _ _ _ hy15
  replace e15 : [c21] = [Bo d15] := e15
  simp only [List.cons.injEq, and_true] at e15
  obtain rfl := e15
  exact ⟨⟨d0, d1, d2, d3, d4, d5, d6, d7, d8, d9, d10, d11, d12, d13, d14, d15⟩, rfl, ⟨k0, k1, k2, k3, k4, k5, k6, k7, k8, k9, k10, k11, k12, k13, k14, k15⟩⟩

end Go.Sw
