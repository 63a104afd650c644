/- How arguments that read as data open, type by type. No conditions. -/
import Derived.Test.YtppjnohcfljmoaaGreatDoorFx
import Derived.Test.YtppjnohcfljmoaaGreatDoorLibV
namespace Go.Sw
open Go Go.RowKit Go.Proofs

theorem own_ : ownKnob Tryz.prog.godebug = none := by kernel_rfl
theorem laidOut_ : laidOutB Tryz.prog = true := by kernel_rfl
theorem maxlen_ (w : World) (h : w.ShapedOpen Tryz.prog) : ∃ m, w.cell? ⟨1, 0, none⟩ = some (.int .i64 m) := Go.Proofs.cell_of_shapedOpen_int (zero := #[.int .i64 0]) (t := 3) h (of_decide_eq_true (by kernel_rfl)) (by kernel_rfl) rfl (by kernel_rfl) (by kernel_rfl) Tryz.underlying3
theorem opens4 : Opens Tryz.prog 4 Bool := Opens.bool (by kernel_rfl)
theorem opens9 : Opens Tryz.prog 9 Str := Opens.str (by kernel_rfl)
theorem opens53 : Opens Tryz.prog 53 (Sl Str) := Opens.slice (el := 9) (by kernel_rfl) (by kernel_rfl) opens9
theorem len5 {l : List Value} (h : l.length = 5) : ∃ c0 c1 c2 c3 c4, l = [c0, c1, c2, c3, c4] := by
  match l, h with
  | [c0, c1, c2, c3, c4], _ => exact ⟨_, _, _, _, _, rfl⟩
theorem opens55 : Opens Tryz.prog 55 PPolicy := fun H enc W sp held fuel cs x hx => by
  have hu : Tryz.prog.underlying 55 = some (.struct #[⟨ "Set", 4, 0, false, "", "", 0⟩, ⟨ "Scripts", 53, 1, false, "", "", 8⟩, ⟨ "Styles", 53, 2, false, "", "", 32⟩, ⟨ "Images", 53, 3, false, "", "", 56⟩, ⟨ "Nonce", 9, 4, false, "", "", 80⟩]) := by kernel_rfl
  obtain ⟨hl, fuel1, hp⟩ := trod_pieces hu hx
  have hn : Tryz.prog.cellsOf 55 = 5 := by kernel_rfl
  rw [hn] at hl
  obtain ⟨c0, c1, c2, c3, c4, rfl⟩ := len5 hl
  obtain ⟨y0, hy0⟩ := hp ⟨ "Set", 4, 0, false, "", "", 0⟩ (by simp)
  have z0 : Tryz.prog.cellsOf 4 = 1 := by kernel_rfl
  simp only [z0] at hy0
  obtain ⟨d0, e0, k0⟩ := opens4 _ _ _ _ _ _ _ _ hy0
  replace e0 : [c0] = [Bo d0] := e0
  simp only [List.cons.injEq, and_true] at e0
  obtain rfl := e0
  obtain ⟨y1, hy1⟩ := hp ⟨ "Scripts", 53, 1, false, "", "", 8⟩ (by simp)
  have z1 : Tryz.prog.cellsOf 53 = 1 := by kernel_rfl
  simp only [z1] at hy1
  obtain ⟨d1, e1, k1⟩ := opens53 _ _ _ _ _ _ _ _ hy1
  replace e1 : [c1] = [Sl.v d1] := e1
  simp only [List.cons.injEq, and_true] at e1
  obtain rfl := e1
  obtain ⟨y2, hy2⟩ := hp ⟨ "Styles", 53, 2, false, "", "", 32⟩ (by simp)
  have z2 : Tryz.prog.cellsOf 53 = 1 := by kernel_rfl
  simp only [z2] at hy2
  obtain ⟨d2, e2, k2⟩ := opens53 _ _ _ _ _ _ _ _ hy2
  replace e2 : [c2] = [Sl.v d2] := e2
  simp only [List.cons.injEq, and_true] at e2
  obtain rfl := e2
  obtain ⟨y3, hy3⟩ := hp ⟨ "Images", 53, 3, false, "", "", 56⟩ (by simp)
  have z3 : Tryz.prog.cellsOf 53 = 1 := by kernel_rfl
  simp only [z3] at hy3
  obtain ⟨d3, e3, k3⟩ := opens53 _ _ _ _ _ _ _ _ hy3
  replace e3 : [c3] = [Sl.v d3] := e3
  simp only [List.cons.injEq, and_true] at e3
  obtain rfl := e3
  obtain ⟨y4, hy4⟩ := hp ⟨ "Nonce", 9, 4, false, "", "", 80⟩ (by simp)
  have z4 : Tryz.prog.cellsOf 9 = 1 := by kernel_rfl
  simp only [z4] at hy4
  obtain ⟨d4, e4, k4⟩ := opens9 _ _ _ _ _ _ _ _ hy4
  replace e4 : [c4] = [S d4] := e4
  simp only [List.cons.injEq, and_true] at e4
  obtain rfl := e4
  exact ⟨⟨d0, d1, d2, d3, d4⟩, rfl, ⟨k0, k1, k2, k3, k4⟩⟩
theorem opens3 : Opens Tryz.prog 3 Int := Opens.int (by kernel_rfl)
theorem len2 {l : List Value} (h : l.length = 2) : ∃ c0 c1, l = [c0, c1] := by
  match l, h with
  | [c0, c1], _ => exact ⟨_, _, rfl⟩
theorem opens30 : Opens Tryz.prog 30 TAddr := fun H enc W sp held fuel cs x hx => by
  have hu : Tryz.prog.underlying 30 = some (.struct #[⟨ "Host", 9, 0, false, "", "", 0⟩, ⟨ "Path", 9, 1, false, "", "", 16⟩]) := by kernel_rfl
  obtain ⟨hl, fuel1, hp⟩ := trod_pieces hu hx
  have hn : Tryz.prog.cellsOf 30 = 2 := by kernel_rfl
  rw [hn] at hl
  obtain ⟨c0, c1, rfl⟩ := len2 hl
  obtain ⟨y0, hy0⟩ := hp ⟨ "Host", 9, 0, false, "", "", 0⟩ (by simp)
  have z0 : Tryz.prog.cellsOf 9 = 1 := by kernel_rfl
  simp only [z0] at hy0
  obtain ⟨d0, e0, k0⟩ := opens9 _ _ _ _ _ _ _ _ hy0
  replace e0 : [c0] = [S d0] := e0
  simp only [List.cons.injEq, and_true] at e0
  obtain rfl := e0
  obtain ⟨y1, hy1⟩ := hp ⟨ "Path", 9, 1, false, "", "", 16⟩ (by simp)
  have z1 : Tryz.prog.cellsOf 9 = 1 := by kernel_rfl
  simp only [z1] at hy1
  obtain ⟨d1, e1, k1⟩ := opens9 _ _ _ _ _ _ _ _ hy1
  replace e1 : [c1] = [S d1] := e1
  simp only [List.cons.injEq, and_true] at e1
  obtain rfl := e1
  exact ⟨⟨d0, d1⟩, rfl, ⟨k0, k1⟩⟩
theorem opens57 : Opens Tryz.prog 57 TRequest := fun H enc W sp held fuel cs x hx => by
  have hu : Tryz.prog.underlying 57 = some (.struct #[⟨ "Kind", 3, 0, false, "", "", 0⟩, ⟨ "To", 30, 1, false, "", "", 8⟩, ⟨ "From", 9, 3, false, "", "", 40⟩, ⟨ "Digest", 9, 4, false, "", "", 56⟩]) := by kernel_rfl
  obtain ⟨hl, fuel1, hp⟩ := trod_pieces hu hx
  have hn : Tryz.prog.cellsOf 57 = 5 := by kernel_rfl
  rw [hn] at hl
  obtain ⟨c0, c1, c2, c3, c4, rfl⟩ := len5 hl
  obtain ⟨y0, hy0⟩ := hp ⟨ "Kind", 3, 0, false, "", "", 0⟩ (by simp)
  have z0 : Tryz.prog.cellsOf 3 = 1 := by kernel_rfl
  simp only [z0] at hy0
  obtain ⟨d0, e0, k0⟩ := opens3 _ _ _ _ _ _ _ _ hy0
  replace e0 : [c0] = [I d0] := e0
  simp only [List.cons.injEq, and_true] at e0
  obtain rfl := e0
  obtain ⟨y1, hy1⟩ := hp ⟨ "To", 30, 1, false, "", "", 8⟩ (by simp)
  have z1 : Tryz.prog.cellsOf 30 = 2 := by kernel_rfl
  simp only [z1] at hy1
  obtain ⟨d1, e1, k1⟩ := opens30 _ _ _ _ _ _ _ _ hy1
  replace e1 : [c1, c2] = [S d1.host, S d1.path] := e1
  simp only [List.cons.injEq, and_true] at e1
  obtain ⟨rfl, rfl⟩ := e1
  obtain ⟨y2, hy2⟩ := hp ⟨ "From", 9, 3, false, "", "", 40⟩ (by simp)
  have z2 : Tryz.prog.cellsOf 9 = 1 := by kernel_rfl
  simp only [z2] at hy2
  obtain ⟨d2, e2, k2⟩ := opens9 _ _ _ _ _ _ _ _ hy2
  replace e2 : [c3] = [S d2] := e2
  simp only [List.cons.injEq, and_true] at e2
  obtain rfl := e2
  obtain ⟨y3, hy3⟩ := hp ⟨ "Digest", 9, 4, false, "", "", 56⟩ (by simp)
  have z3 : Tryz.prog.cellsOf 9 = 1 := by kernel_rfl
  simp only [z3] at hy3
  obtain ⟨d3, e3, k3⟩ := opens9 _ _ _ _ _ _ _ _ hy3
  replace e3 : [c4] = [S d3] := e3
  simp only [List.cons.injEq, and_true] at e3
  obtain rfl := e3
  exact ⟨⟨d0, d1, d2, d3⟩, rfl, ⟨k0, k1, k2, k3⟩⟩
theorem len6 {l : List Value} (h : l.length = 6) : ∃ c0 c1 c2 c3 c4 c5, l = [c0, c1, c2, c3, c4, c5] := by
  match l, h with
  | [c0, c1, c2, c3, c4, c5], _ => exact ⟨_, _, _, _, _, _, rfl⟩
theorem opens58 : Opens Tryz.prog 58 TResponse := fun H enc W sp held fuel cs x hx => by
  have hu : Tryz.prog.underlying 58 = some (.struct #[⟨ "Status", 3, 0, false, "", "", 0⟩, ⟨ "Kind", 3, 1, false, "", "", 8⟩, ⟨ "Body", 9, 2, false, "", "", 16⟩, ⟨ "Age", 3, 3, false, "", "", 32⟩, ⟨ "Shares", 4, 4, false, "", "", 40⟩, ⟨ "Policy", 9, 5, false, "", "", 48⟩]) := by kernel_rfl
  obtain ⟨hl, fuel1, hp⟩ := trod_pieces hu hx
  have hn : Tryz.prog.cellsOf 58 = 6 := by kernel_rfl
  rw [hn] at hl
  obtain ⟨c0, c1, c2, c3, c4, c5, rfl⟩ := len6 hl
  obtain ⟨y0, hy0⟩ := hp ⟨ "Status", 3, 0, false, "", "", 0⟩ (by simp)
  have z0 : Tryz.prog.cellsOf 3 = 1 := by kernel_rfl
  simp only [z0] at hy0
  obtain ⟨d0, e0, k0⟩ := opens3 _ _ _ _ _ _ _ _ hy0
  replace e0 : [c0] = [I d0] := e0
  simp only [List.cons.injEq, and_true] at e0
  obtain rfl := e0
  obtain ⟨y1, hy1⟩ := hp ⟨ "Kind", 3, 1, false, "", "", 8⟩ (by simp)
  have z1 : Tryz.prog.cellsOf 3 = 1 := by kernel_rfl
  simp only [z1] at hy1
  obtain ⟨d1, e1, k1⟩ := opens3 _ _ _ _ _ _ _ _ hy1
  replace e1 : [c1] = [I d1] := e1
  simp only [List.cons.injEq, and_true] at e1
  obtain rfl := e1
  obtain ⟨y2, hy2⟩ := hp ⟨ "Body", 9, 2, false, "", "", 16⟩ (by simp)
  have z2 : Tryz.prog.cellsOf 9 = 1 := by kernel_rfl
  simp only [z2] at hy2
  obtain ⟨d2, e2, k2⟩ := opens9 _ _ _ _ _ _ _ _ hy2
  replace e2 : [c2] = [S d2] := e2
  simp only [List.cons.injEq, and_true] at e2
  obtain rfl := e2
  obtain ⟨y3, hy3⟩ := hp ⟨ "Age", 3, 3, false, "", "", 32⟩ (by simp)
  have z3 : Tryz.prog.cellsOf 3 = 1 := by kernel_rfl
  simp only [z3] at hy3
  obtain ⟨d3, e3, k3⟩ := opens3 _ _ _ _ _ _ _ _ hy3
  replace e3 : [c3] = [I d3] := e3
  simp only [List.cons.injEq, and_true] at e3
  obtain rfl := e3
  obtain ⟨y4, hy4⟩ := hp ⟨ "Shares", 4, 4, false, "", "", 40⟩ (by simp)
  have z4 : Tryz.prog.cellsOf 4 = 1 := by kernel_rfl
  simp only [z4] at hy4
  obtain ⟨d4, e4, k4⟩ := opens4 _ _ _ _ _ _ _ _ hy4
  replace e4 : [c4] = [Bo d4] := e4
  simp only [List.cons.injEq, and_true] at e4
  obtain rfl := e4
  obtain ⟨y5, hy5⟩ := hp ⟨ "Policy", 9, 5, false, "", "", 48⟩ (by simp)
  have z5 : Tryz.prog.cellsOf 9 = 1 := by kernel_rfl
  simp only [z5] at hy5
  obtain ⟨d5, e5, k5⟩ := opens9 _ _ _ _ _ _ _ _ hy5
  replace e5 : [c5] = [S d5] := e5
  simp only [List.cons.injEq, and_true] at e5
  obtain rfl := e5
  exact ⟨⟨d0, d1, d2, d3, d4, d5⟩, rfl, ⟨k0, k1, k2, k3, k4, k5⟩⟩

end Go.Sw
