/- How arguments that read as data open, type by type. No conditions. -/
import Derived.Test.YtppjnohcfljmoaaGreatDoorFx
import Derived.Test.YtppjnohcfljmoaaGreatDoorLibV
namespace Go.Sw
open Go Go.RowKit Go.Proofs

theorem own_ : ownKnob Tryz.prog.godebug = none := by kernel_rfl
theorem laidOut_ : laidOutB Tryz.prog = true := by kernel_rfl
theorem maxlen_ (w : World) (h : w.ShapedOpen Tryz.prog) : ∃ m, w.cell? ⟨1, 0, none⟩ = some (.int .i64 m) := Go.Proofs.cell_of_shapedOpen_int (zero := #[.int .i64 0]) (t := 3) h (of_decide_eq_true (by kernel_rfl)) (by kernel_rfl) rfl (by kernel_rfl) (by kernel_rfl) Tryz.underlying3
theorem opens9 : Opens Tryz.prog 9 Str := Opens.str (by kernel_rfl)
theorem opens3 : Opens Tryz.prog 3 Int := Opens.int (by kernel_rfl)
theorem opens4 : Opens Tryz.prog 4 Bool := Opens.bool (by kernel_rfl)
theorem len6 {l : List Value} (h : l.length = 6) : ∃ c0 c1 c2 c3 c4 c5, l = [c0, c1, c2, c3, c4, c5] := by
  match l, h with
  | [c0, c1, c2, c3, c4, c5], _ => exact ⟨_, _, _, _, _, _, rfl⟩
theorem opens58 : Opens Tryz.prog 58 TResponse := fun H enc W sp held fuel cs x hx => by
  have hu : Tryz.prog.underlying 58 = some (.struct #[⟨ "Status", 3, 0, false, "", "", 0⟩, ⟨ "Kind", 3, 1, false, "", "", 8⟩, ⟨ "Body", 9, 2, false, "", "", 16⟩, ⟨ "Age", 3, 3, false, "", "", 32⟩, ⟨ "Shares", 4, 4, false, "", "", 40⟩, ⟨ "Policy", 9, 5, false, "", "", 48⟩]) := by kernel_rfl
  obtain ⟨hl, fuel1, hp⟩ := trod_pieces hu hx
  have hn : Tryz.prog.cellsOf 58 = 6 := by kernel_rfl
  rw [hn] at hl
  obtain ⟨c0, c1, c2, c3, c4, c5, rfl⟩ := len6 hl
  obtain ⟨y0, hy0⟩ := hp ⟨ "Status", 3, 0, false, "", "", 0⟩ (by simp)
  have z0 : Tryz.prog.cellsOf 3 = 1 := by kernel_rfl
  simp only [z0] at hy0
  obtain ⟨d0, e0, k0⟩ := opens3 _ _ _ _ _ _ _ _ hy0
  replace e0 : [c0] = [I d0] := e0
  simp only [List.cons.injEq, and_true] at e0
  obtain rfl := e0
  obtain ⟨y1, hy1⟩ := hp ⟨ "Kind", 3, 1, false, "", "", 8⟩ (by simp)
  have z1 : Tryz.prog.cellsOf 3 = 1 := by kernel_rfl
  simp only [z1] at hy1
  obtain ⟨d1, e1, k1⟩ := opens3 _ _ _ _ _ _ _ _ hy1
  replace e1 : [c1] = [I d1] := e1
  simp only [List.cons.injEq, and_true] at e1
  obtain rfl := e1
  obtain ⟨y2, hy2⟩ := hp ⟨ "Body", 9, 2, false, "", "", 16⟩ (by simp)
  have z2 : Tryz.prog.cellsOf 9 = 1 := by kernel_rfl
  simp only [z2] at hy2
  obtain ⟨d2, e2, k2⟩ := opens9 _ _ _ _ _ _ _ _ hy2
  replace e2 : [c2] = [S d2] := e2
  simp only [List.cons.injEq, and_true] at e2
  obtain rfl := e2
  obtain ⟨y3, hy3⟩ := hp ⟨ "Age", 3, 3, false, "", "", 32⟩ (by simp)
  have z3 : Tryz.prog.cellsOf 3 = 1 := by kernel_rfl
  simp only [z3] at hy3
  obtain ⟨d3, e3, k3⟩ := opens3 _ _ _ _ _ _ _ _ hy3
  replace e3 : [c3] = [I d3] := e3
  simp only [List.cons.injEq, and_true] at e3
  obtain rfl := e3
  obtain ⟨y4, hy4⟩ := hp ⟨ "Shares", 4, 4, false, "", "", 40⟩ (by simp)
  have z4 : Tryz.prog.cellsOf 4 = 1 := by kernel_rfl
  simp only [z4] at hy4
  obtain ⟨d4, e4, k4⟩ := opens4 _ _ _ _ _ _ _ _ hy4
  replace e4 : [c4] = [Bo d4] := e4
  simp only [List.cons.injEq, and_true] at e4
  obtain rfl := e4
  obtain ⟨y5, hy5⟩ := hp ⟨ "Policy", 9, 5, false, "", "", 48⟩ (by simp)
  have z5 : Tryz.prog.cellsOf 9 = 1 := by kernel_rfl
  simp only [z5] at hy5
  obtain ⟨d5, e5, k5⟩ := opens9 _ _ _ _ _ _ _ _ hy5
  replace e5 : [c5] = [S d5] := e5
  simp only [List.cons.injEq, and_true] at e5
  obtain rfl := e5
  exact ⟨⟨d0, d1, d2, d3, d4, d5⟩, rfl, ⟨k0, k1, k2, k3, k4, k5⟩⟩
theorem len7 {l : List Value} (h : l.length = 7) : ∃ c0 c1 c2 c3 c4 c5 c6, l = [c0, c1, c2, c3, c4, c5, c6] := by
  match l, h with
  | [c0, c1, c2, c3, c4, c5, c6], _ => exact ⟨_, _, _, _, _, _, _, rfl⟩
theorem opens270 : Opens Tryz.prog 270 TFile := fun H enc W sp held fuel cs x hx => by
  have hu : Tryz.prog.underlying 270 = some (.struct #[⟨ "Path", 9, 0, false, "", "", 0⟩, ⟨ "Response", 58, 1, false, "", "", 16⟩]) := by kernel_rfl
  obtain ⟨hl, fuel1, hp⟩ := trod_pieces hu hx
  have hn : Tryz.prog.cellsOf 270 = 7 := by kernel_rfl
  rw [hn] at hl
  obtain ⟨c0, c1, c2, c3, c4, c5, c6, rfl⟩ := len7 hl
  obtain ⟨y0, hy0⟩ := hp ⟨ "Path", 9, 0, false, "", "", 0⟩ (by simp)
  have z0 : Tryz.prog.cellsOf 9 = 1 := by kernel_rfl
  simp only [z0] at hy0
  obtain ⟨d0, e0, k0⟩ := opens9 _ _ _ _ _ _ _ _ hy0
  replace e0 : [c0] = [S d0] := e0
  simp only [List.cons.injEq, and_true] at e0
  obtain rfl := e0
  obtain ⟨y1, hy1⟩ := hp ⟨ "Response", 58, 1, false, "", "", 16⟩ (by simp)
  have z1 : Tryz.prog.cellsOf 58 = 6 := by kernel_rfl
  simp only [z1] at hy1
  obtain ⟨d1, e1, k1⟩ := opens58 _ _ _ _ _ _ _ _ hy1
  replace e1 : [c1, c2, c3, c4, c5, c6] = [I d1.status, I d1.kind, S d1.body, I d1.age, Bo d1.shares, S d1.policy] := e1
  simp only [List.cons.injEq, and_true] at e1
  obtain ⟨rfl, rfl, rfl, rfl, rfl, rfl⟩ := e1
  exact ⟨⟨d0, d1⟩, rfl, ⟨k0, k1⟩⟩
theorem opens170 : Opens Tryz.prog 170 (Sl TFile) := Opens.slice (el := 270) (by kernel_rfl) (by kernel_rfl) opens270
theorem len2 {l : List Value} (h : l.length = 2) : ∃ c0 c1, l = [c0, c1] := by
  match l, h with
  | [c0, c1], _ => exact ⟨_, _, rfl⟩
theorem opens172 : Opens Tryz.prog 172 PServer := fun H enc W sp held fuel cs x hx => by
  have hu : Tryz.prog.underlying 172 = some (.struct #[⟨ "Host", 9, 0, false, "", "", 0⟩, ⟨ "Files", 170, 1, false, "", "", 16⟩]) := by kernel_rfl
  obtain ⟨hl, fuel1, hp⟩ := trod_pieces hu hx
  have hn : Tryz.prog.cellsOf 172 = 2 := by kernel_rfl
  rw [hn] at hl
  obtain ⟨c0, c1, rfl⟩ := len2 hl
  obtain ⟨y0, hy0⟩ := hp ⟨ "Host", 9, 0, false, "", "", 0⟩ (by simp)
  have z0 : Tryz.prog.cellsOf 9 = 1 := by kernel_rfl
  simp only [z0] at hy0
  obtain ⟨d0, e0, k0⟩ := opens9 _ _ _ _ _ _ _ _ hy0
  replace e0 : [c0] = [S d0] := e0
  simp only [List.cons.injEq, and_true] at e0
  obtain rfl := e0
  obtain ⟨y1, hy1⟩ := hp ⟨ "Files", 170, 1, false, "", "", 16⟩ (by simp)
  have z1 : Tryz.prog.cellsOf 170 = 1 := by kernel_rfl
  simp only [z1] at hy1
  obtain ⟨d1, e1, k1⟩ := opens170 _ _ _ _ _ _ _ _ hy1
  replace e1 : [c1] = [Sl.v d1] := e1
  simp only [List.cons.injEq, and_true] at e1
  obtain rfl := e1
  exact ⟨⟨d0, d1⟩, rfl, ⟨k0, k1⟩⟩
theorem opens22 : Opens Tryz.prog 22 (Sl PServer) := Opens.slice (el := 172) (by kernel_rfl) (by kernel_rfl) opens172
theorem opens30 : Opens Tryz.prog 30 TAddr := fun H enc W sp held fuel cs x hx => by
  have hu : Tryz.prog.underlying 30 = some (.struct #[⟨ "Host", 9, 0, false, "", "", 0⟩, ⟨ "Path", 9, 1, false, "", "", 16⟩]) := by kernel_rfl
  obtain ⟨hl, fuel1, hp⟩ := trod_pieces hu hx
  have hn : Tryz.prog.cellsOf 30 = 2 := by kernel_rfl
  rw [hn] at hl
  obtain ⟨c0, c1, rfl⟩ := len2 hl
  obtain ⟨y0, hy0⟩ := hp ⟨ "Host", 9, 0, false, "", "", 0⟩ (by simp)
  have z0 : Tryz.prog.cellsOf 9 = 1 := by kernel_rfl
  simp only [z0] at hy0
  obtain ⟨d0, e0, k0⟩ := opens9 _ _ _ _ _ _ _ _ hy0
  replace e0 : [c0] = [S d0] := e0
  simp only [List.cons.injEq, and_true] at e0
  obtain rfl := e0
  obtain ⟨y1, hy1⟩ := hp ⟨ "Path", 9, 1, false, "", "", 16⟩ (by simp)
  have z1 : Tryz.prog.cellsOf 9 = 1 := by kernel_rfl
  simp only [z1] at hy1
  obtain ⟨d1, e1, k1⟩ := opens9 _ _ _ _ _ _ _ _ hy1
  replace e1 : [c1] = [S d1] := e1
  simp only [List.cons.injEq, and_true] at e1
  obtain rfl := e1
  exact ⟨⟨d0, d1⟩, rfl, ⟨k0, k1⟩⟩
theorem len10 {l : List Value} (h : l.length = 10) : ∃ c0 c1 c2 c3 c4 c5 c6 c7 c8 c9, l = [c0, c1, c2, c3, c4, c5, c6, c7, c8, c9] := by
  match l, h with
  | [c0, c1, c2, c3, c4, c5, c6, c7, c8, c9], _ => exact ⟨_, _, _, _, _, _, _, _, _, _, rfl⟩
theorem opens224 : Opens Tryz.prog 224 TEntry := fun H enc W sp held fuel cs x hx => by
  have hu : Tryz.prog.underlying 224 = some (.struct #[⟨ "Top", 9, 0, false, "", "", 0⟩, ⟨ "To", 30, 1, false, "", "", 16⟩, ⟨ "Response", 58, 3, false, "", "", 48⟩, ⟨ "Until", 3, 9, false, "", "", 112⟩]) := by kernel_rfl
  obtain ⟨hl, fuel1, hp⟩ := trod_pieces hu hx
  have hn : Tryz.prog.cellsOf 224 = 10 := by kernel_rfl
  rw [hn] at hl
  obtain ⟨c0, c1, c2, c3, c4, c5, c6, c7, c8, c9, rfl⟩ := len10 hl
  obtain ⟨y0, hy0⟩ := hp ⟨ "Top", 9, 0, false, "", "", 0⟩ (by simp)
  have z0 : Tryz.prog.cellsOf 9 = 1 := by kernel_rfl
  simp only [z0] at hy0
  obtain ⟨d0, e0, k0⟩ := opens9 _ _ _ _ _ _ _ _ hy0
  replace e0 : [c0] = [S d0] := e0
  simp only [List.cons.injEq, and_true] at e0
  obtain rfl := e0
  obtain ⟨y1, hy1⟩ := hp ⟨ "To", 30, 1, false, "", "", 16⟩ (by simp)
  have z1 : Tryz.prog.cellsOf 30 = 2 := by kernel_rfl
  simp only [z1] at hy1
  obtain ⟨d1, e1, k1⟩ := opens30 _ _ _ _ _ _ _ _ hy1
  replace e1 : [c1, c2] = [S d1.host, S d1.path] := e1
  simp only [List.cons.injEq, and_true] at e1
  obtain ⟨rfl, rfl⟩ := e1
  obtain ⟨y2, hy2⟩ := hp ⟨ "Response", 58, 3, false, "", "", 48⟩ (by simp)
  have z2 : Tryz.prog.cellsOf 58 = 6 := by kernel_rfl
  simp only [z2] at hy2
  obtain ⟨d2, e2, k2⟩ := opens58 _ _ _ _ _ _ _ _ hy2
  replace e2 : [c3, c4, c5, c6, c7, c8] = [I d2.status, I d2.kind, S d2.body, I d2.age, Bo d2.shares, S d2.policy] := e2
  simp only [List.cons.injEq, and_true] at e2
  obtain ⟨rfl, rfl, rfl, rfl, rfl, rfl⟩ := e2
  obtain ⟨y3, hy3⟩ := hp ⟨ "Until", 3, 9, false, "", "", 112⟩ (by simp)
  have z3 : Tryz.prog.cellsOf 3 = 1 := by kernel_rfl
  simp only [z3] at hy3
  obtain ⟨d3, e3, k3⟩ := opens3 _ _ _ _ _ _ _ _ hy3
  replace e3 : [c9] = [I d3] := e3
  simp only [List.cons.injEq, and_true] at e3
  obtain rfl := e3
  exact ⟨⟨d0, d1, d2, d3⟩, rfl, ⟨k0, k1, k2, k3⟩⟩
theorem opens23 : Opens Tryz.prog 23 (Sl TEntry) := Opens.slice (el := 224) (by kernel_rfl) (by kernel_rfl) opens224
theorem len1 {l : List Value} (h : l.length = 1) : ∃ c0, l = [c0] := by
  match l, h with
  | [c0], _ => exact ⟨_, rfl⟩
theorem opens25 : Opens Tryz.prog 25 PCache := fun H enc W sp held fuel cs x hx => by
  have hu : Tryz.prog.underlying 25 = some (.struct #[⟨ "Entries", 23, 0, false, "", "", 0⟩]) := by kernel_rfl
  obtain ⟨hl, fuel1, hp⟩ := trod_pieces hu hx
  have hn : Tryz.prog.cellsOf 25 = 1 := by kernel_rfl
  rw [hn] at hl
  obtain ⟨c0, rfl⟩ := len1 hl
  obtain ⟨y0, hy0⟩ := hp ⟨ "Entries", 23, 0, false, "", "", 0⟩ (by simp)
  have z0 : Tryz.prog.cellsOf 23 = 1 := by kernel_rfl
  simp only [z0] at hy0
  obtain ⟨d0, e0, k0⟩ := opens23 _ _ _ _ _ _ _ _ hy0
  replace e0 : [c0] = [Sl.v d0] := e0
  simp only [List.cons.injEq, and_true] at e0
  obtain rfl := e0
  exact ⟨⟨d0⟩, rfl, ⟨k0⟩⟩
theorem len4 {l : List Value} (h : l.length = 4) : ∃ c0 c1 c2 c3, l = [c0, c1, c2, c3] := by
  match l, h with
  | [c0, c1, c2, c3], _ => exact ⟨_, _, _, _, rfl⟩
theorem opens176 : Opens Tryz.prog 176 TSent := fun H enc W sp held fuel cs x hx => by
  have hu : Tryz.prog.underlying 176 = some (.struct #[⟨ "Top", 9, 0, false, "", "", 0⟩, ⟨ "To", 30, 1, false, "", "", 16⟩, ⟨ "Guess", 4, 3, false, "", "", 48⟩]) := by kernel_rfl
  obtain ⟨hl, fuel1, hp⟩ := trod_pieces hu hx
  have hn : Tryz.prog.cellsOf 176 = 4 := by kernel_rfl
  rw [hn] at hl
  obtain ⟨c0, c1, c2, c3, rfl⟩ := len4 hl
  obtain ⟨y0, hy0⟩ := hp ⟨ "Top", 9, 0, false, "", "", 0⟩ (by simp)
  have z0 : Tryz.prog.cellsOf 9 = 1 := by kernel_rfl
  simp only [z0] at hy0
  obtain ⟨d0, e0, k0⟩ := opens9 _ _ _ _ _ _ _ _ hy0
  replace e0 : [c0] = [S d0] := e0
  simp only [List.cons.injEq, and_true] at e0
  obtain rfl := e0
  obtain ⟨y1, hy1⟩ := hp ⟨ "To", 30, 1, false, "", "", 16⟩ (by simp)
  have z1 : Tryz.prog.cellsOf 30 = 2 := by kernel_rfl
  simp only [z1] at hy1
  obtain ⟨d1, e1, k1⟩ := opens30 _ _ _ _ _ _ _ _ hy1
  replace e1 : [c1, c2] = [S d1.host, S d1.path] := e1
  simp only [List.cons.injEq, and_true] at e1
  obtain ⟨rfl, rfl⟩ := e1
  obtain ⟨y2, hy2⟩ := hp ⟨ "Guess", 4, 3, false, "", "", 48⟩ (by simp)
  have z2 : Tryz.prog.cellsOf 4 = 1 := by kernel_rfl
  simp only [z2] at hy2
  obtain ⟨d2, e2, k2⟩ := opens4 _ _ _ _ _ _ _ _ hy2
  replace e2 : [c3] = [Bo d2] := e2
  simp only [List.cons.injEq, and_true] at e2
  obtain rfl := e2
  exact ⟨⟨d0, d1, d2⟩, rfl, ⟨k0, k1, k2⟩⟩
theorem opens26 : Opens Tryz.prog 26 (Sl TSent) := Opens.slice (el := 176) (by kernel_rfl) (by kernel_rfl) opens176
theorem opens28 : Opens Tryz.prog 28 PNet := fun H enc W sp held fuel cs x hx => by
  have hu : Tryz.prog.underlying 28 = some (.struct #[⟨ "Servers", 22, 0, false, "", "", 0⟩, ⟨ "Cache", 25, 1, false, "", "", 24⟩, ⟨ "Log", 26, 2, false, "", "", 48⟩, ⟨ "Now", 3, 3, false, "", "", 72⟩]) := by kernel_rfl
  obtain ⟨hl, fuel1, hp⟩ := trod_pieces hu hx
  have hn : Tryz.prog.cellsOf 28 = 4 := by kernel_rfl
  rw [hn] at hl
  obtain ⟨c0, c1, c2, c3, rfl⟩ := len4 hl
  obtain ⟨y0, hy0⟩ := hp ⟨ "Servers", 22, 0, false, "", "", 0⟩ (by simp)
  have z0 : Tryz.prog.cellsOf 22 = 1 := by kernel_rfl
  simp only [z0] at hy0
  obtain ⟨d0, e0, k0⟩ := opens22 _ _ _ _ _ _ _ _ hy0
  replace e0 : [c0] = [Sl.v d0] := e0
  simp only [List.cons.injEq, and_true] at e0
  obtain rfl := e0
  obtain ⟨y1, hy1⟩ := hp ⟨ "Cache", 25, 1, false, "", "", 24⟩ (by simp)
  have z1 : Tryz.prog.cellsOf 25 = 1 := by kernel_rfl
  simp only [z1] at hy1
  obtain ⟨d1, e1, k1⟩ := opens25 _ _ _ _ _ _ _ _ hy1
  replace e1 : [c1] = [Sl.v d1.entries] := e1
  simp only [List.cons.injEq, and_true] at e1
  obtain rfl := e1
  obtain ⟨y2, hy2⟩ := hp ⟨ "Log", 26, 2, false, "", "", 48⟩ (by simp)
  have z2 : Tryz.prog.cellsOf 26 = 1 := by kernel_rfl
  simp only [z2] at hy2
  obtain ⟨d2, e2, k2⟩ := opens26 _ _ _ _ _ _ _ _ hy2
  replace e2 : [c2] = [Sl.v d2] := e2
  simp only [List.cons.injEq, and_true] at e2
  obtain rfl := e2
  obtain ⟨y3, hy3⟩ := hp ⟨ "Now", 3, 3, false, "", "", 72⟩ (by simp)
  have z3 : Tryz.prog.cellsOf 3 = 1 := by kernel_rfl
  simp only [z3] at hy3
  obtain ⟨d3, e3, k3⟩ := opens3 _ _ _ _ _ _ _ _ hy3
  replace e3 : [c3] = [I d3] := e3
  simp only [List.cons.injEq, and_true] at e3
  obtain rfl := e3
  exact ⟨⟨d0, d1, d2, d3⟩, rfl, ⟨k0, k1, k2, k3⟩⟩

end Go.Sw
