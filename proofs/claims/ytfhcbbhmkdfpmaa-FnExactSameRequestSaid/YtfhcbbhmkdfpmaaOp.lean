/- How arguments that read as data open, type by type. No conditions. -/
import Derived.Test.YtfhcbbhmkdfpmaaFx
import Derived.Test.YtfhcbbhmkdfpmaaLibR
namespace Go.Sw
open Go Go.RowKit Go.Proofs

theorem own_ : ownKnob Try.prog.godebug = none := by kernel_rfl
theorem laidOut_ : laidOutB Try.prog = true := by kernel_rfl
theorem opens3 : Opens Try.prog 3 Int := Opens.int (by kernel_rfl)
theorem opens9 : Opens Try.prog 9 Str := Opens.str (by kernel_rfl)
theorem len2 {l : List Value} (h : l.length = 2) : ∃ c0 c1, l = [c0, c1] := by
  match l, h with
  | [c0, c1], _ => exact ⟨_, _, rfl⟩
theorem opens23 : Opens Try.prog 23 TAddr := fun H enc W sp held fuel cs x hx => by
  have hu : Try.prog.underlying 23 = some (.struct #[⟨ "Host", 9, 0, false, "", "", 0⟩, ⟨ "Path", 9, 1, false, "", "", 16⟩]) := by kernel_rfl
  obtain ⟨hl, fuel1, hp⟩ := trod_pieces hu hx
  have hn : Try.prog.cellsOf 23 = 2 := by kernel_rfl
  rw [hn] at hl
  obtain ⟨c0, c1, rfl⟩ := len2 hl
  obtain ⟨y0, hy0⟩ := hp ⟨ "Host", 9, 0, false, "", "", 0⟩ (by simp)
  have z0 : Try.prog.cellsOf 9 = 1 := by kernel_rfl
  simp only [z0] at hy0
  obtain ⟨d0, e0, k0⟩ := opens9 _ _ _ _ _ _ _ _ hy0
  replace e0 : [c0] = [S d0] := e0
  simp only [List.cons.injEq, and_true] at e0
  obtain rfl := e0
  obtain ⟨y1, hy1⟩ := hp ⟨ "Path", 9, 1, false, "", "", 16⟩ (by simp)
  have z1 : Try.prog.cellsOf 9 = 1 := by kernel_rfl
  simp only [z1] at hy1
  obtain ⟨d1, e1, k1⟩ := opens9 _ _ _ _ _ _ _ _ hy1
  replace e1 : [c1] = [S d1] := e1
  simp only [List.cons.injEq, and_true] at e1
  obtain rfl := e1
  exact ⟨⟨d0, d1⟩, rfl, ⟨k0, k1⟩⟩
theorem len5 {l : List Value} (h : l.length = 5) : ∃ c0 c1 c2 c3 c4, l = [c0, c1, c2, c3, c4] := by
  match l, h with
  | [c0, c1, c2, c3, c4], _ => exact ⟨_, _, _, _, _, rfl⟩
theorem opens25 : Opens Try.prog 25 TRequest := fun H enc W sp held fuel cs x hx => by
  have hu : Try.prog.underlying 25 = some (.struct #[⟨ "Kind", 3, 0, false, "", "", 0⟩, ⟨ "To", 23, 1, false, "", "", 8⟩, ⟨ "From", 9, 3, false, "", "", 40⟩, ⟨ "Digest", 9, 4, false, "", "", 56⟩]) := by kernel_rfl
  obtain ⟨hl, fuel1, hp⟩ := trod_pieces hu hx
  have hn : Try.prog.cellsOf 25 = 5 := by kernel_rfl
  rw [hn] at hl
  obtain ⟨c0, c1, c2, c3, c4, rfl⟩ := len5 hl
  obtain ⟨y0, hy0⟩ := hp ⟨ "Kind", 3, 0, false, "", "", 0⟩ (by simp)
  have z0 : Try.prog.cellsOf 3 = 1 := by kernel_rfl
  simp only [z0] at hy0
  obtain ⟨d0, e0, k0⟩ := opens3 _ _ _ _ _ _ _ _ hy0
  replace e0 : [c0] = [I d0] := e0
  simp only [List.cons.injEq, and_true] at e0
  obtain rfl := e0
  obtain ⟨y1, hy1⟩ := hp ⟨ "To", 23, 1, false, "", "", 8⟩ (by simp)
  have z1 : Try.prog.cellsOf 23 = 2 := by kernel_rfl
  simp only [z1] at hy1
  obtain ⟨d1, e1, k1⟩ := opens23 _ _ _ _ _ _ _ _ hy1
  replace e1 : [c1, c2] = [S d1.host, S d1.path] := e1
  simp only [List.cons.injEq, and_true] at e1
  obtain ⟨rfl, rfl⟩ := e1
  obtain ⟨y2, hy2⟩ := hp ⟨ "From", 9, 3, false, "", "", 40⟩ (by simp)
  have z2 : Try.prog.cellsOf 9 = 1 := by kernel_rfl
  simp only [z2] at hy2
  obtain ⟨d2, e2, k2⟩ := opens9 _ _ _ _ _ _ _ _ hy2
  replace e2 : [c3] = [S d2] := e2
  simp only [List.cons.injEq, and_true] at e2
  obtain rfl := e2
  obtain ⟨y3, hy3⟩ := hp ⟨ "Digest", 9, 4, false, "", "", 56⟩ (by simp)
  have z3 : Try.prog.cellsOf 9 = 1 := by kernel_rfl
  simp only [z3] at hy3
  obtain ⟨d3, e3, k3⟩ := opens9 _ _ _ _ _ _ _ _ hy3
  replace e3 : [c4] = [S d3] := e3
  simp only [List.cons.injEq, and_true] at e3
  obtain rfl := e3
  exact ⟨⟨d0, d1, d2, d3⟩, rfl, ⟨k0, k1, k2, k3⟩⟩
theorem opens84 : Opens Try.prog 84 TLine := fun H enc W sp held fuel cs x hx => by
  have hu : Try.prog.underlying 84 = some (.struct #[⟨ "Op", 3, 0, false, "", "", 0⟩, ⟨ "Text", 9, 1, false, "", "", 8⟩]) := by kernel_rfl
  obtain ⟨hl, fuel1, hp⟩ := trod_pieces hu hx
  have hn : Try.prog.cellsOf 84 = 2 := by kernel_rfl
  rw [hn] at hl
  obtain ⟨c0, c1, rfl⟩ := len2 hl
  obtain ⟨y0, hy0⟩ := hp ⟨ "Op", 3, 0, false, "", "", 0⟩ (by simp)
  have z0 : Try.prog.cellsOf 3 = 1 := by kernel_rfl
  simp only [z0] at hy0
  obtain ⟨d0, e0, k0⟩ := opens3 _ _ _ _ _ _ _ _ hy0
  replace e0 : [c0] = [I d0] := e0
  simp only [List.cons.injEq, and_true] at e0
  obtain rfl := e0
  obtain ⟨y1, hy1⟩ := hp ⟨ "Text", 9, 1, false, "", "", 8⟩ (by simp)
  have z1 : Try.prog.cellsOf 9 = 1 := by kernel_rfl
  simp only [z1] at hy1
  obtain ⟨d1, e1, k1⟩ := opens9 _ _ _ _ _ _ _ _ hy1
  replace e1 : [c1] = [S d1] := e1
  simp only [List.cons.injEq, and_true] at e1
  obtain rfl := e1
  exact ⟨⟨d0, d1⟩, rfl, ⟨k0, k1⟩⟩
theorem opens35 : Opens Try.prog 35 (Sl TLine) := Opens.slice (el := 84) (by kernel_rfl) (by kernel_rfl) opens84
theorem opens4 : Opens Try.prog 4 Bool := Opens.bool (by kernel_rfl)
theorem opens42 : Opens Try.prog 42 (Sl Str) := Opens.slice (el := 9) (by kernel_rfl) (by kernel_rfl) opens9
theorem opens44 : Opens Try.prog 44 PPolicy := fun H enc W sp held fuel cs x hx => by
  have hu : Try.prog.underlying 44 = some (.struct #[⟨ "Set", 4, 0, false, "", "", 0⟩, ⟨ "Scripts", 42, 1, false, "", "", 8⟩, ⟨ "Styles", 42, 2, false, "", "", 32⟩, ⟨ "Images", 42, 3, false, "", "", 56⟩, ⟨ "Nonce", 9, 4, false, "", "", 80⟩]) := by kernel_rfl
  obtain ⟨hl, fuel1, hp⟩ := trod_pieces hu hx
  have hn : Try.prog.cellsOf 44 = 5 := by kernel_rfl
  rw [hn] at hl
  obtain ⟨c0, c1, c2, c3, c4, rfl⟩ := len5 hl
  obtain ⟨y0, hy0⟩ := hp ⟨ "Set", 4, 0, false, "", "", 0⟩ (by simp)
  have z0 : Try.prog.cellsOf 4 = 1 := by kernel_rfl
  simp only [z0] at hy0
  obtain ⟨d0, e0, k0⟩ := opens4 _ _ _ _ _ _ _ _ hy0
  replace e0 : [c0] = [Bo d0] := e0
  simp only [List.cons.injEq, and_true] at e0
  obtain rfl := e0
  obtain ⟨y1, hy1⟩ := hp ⟨ "Scripts", 42, 1, false, "", "", 8⟩ (by simp)
  have z1 : Try.prog.cellsOf 42 = 1 := by kernel_rfl
  simp only [z1] at hy1
  obtain ⟨d1, e1, k1⟩ := opens42 _ _ _ _ _ _ _ _ hy1
  replace e1 : [c1] = [Sl.v d1] := e1
  simp only [List.cons.injEq, and_true] at e1
  obtain rfl := e1
  obtain ⟨y2, hy2⟩ := hp ⟨ "Styles", 42, 2, false, "", "", 32⟩ (by simp)
  have z2 : Try.prog.cellsOf 42 = 1 := by kernel_rfl
  simp only [z2] at hy2
  obtain ⟨d2, e2, k2⟩ := opens42 _ _ _ _ _ _ _ _ hy2
  replace e2 : [c2] = [Sl.v d2] := e2
  simp only [List.cons.injEq, and_true] at e2
  obtain rfl := e2
  obtain ⟨y3, hy3⟩ := hp ⟨ "Images", 42, 3, false, "", "", 56⟩ (by simp)
  have z3 : Try.prog.cellsOf 42 = 1 := by kernel_rfl
  simp only [z3] at hy3
  obtain ⟨d3, e3, k3⟩ := opens42 _ _ _ _ _ _ _ _ hy3
  replace e3 : [c3] = [Sl.v d3] := e3
  simp only [List.cons.injEq, and_true] at e3
  obtain rfl := e3
  obtain ⟨y4, hy4⟩ := hp ⟨ "Nonce", 9, 4, false, "", "", 80⟩ (by simp)
  have z4 : Try.prog.cellsOf 9 = 1 := by kernel_rfl
  simp only [z4] at hy4
  obtain ⟨d4, e4, k4⟩ := opens9 _ _ _ _ _ _ _ _ hy4
  replace e4 : [c4] = [S d4] := e4
  simp only [List.cons.injEq, and_true] at e4
  obtain rfl := e4
  exact ⟨⟨d0, d1, d2, d3, d4⟩, rfl, ⟨k0, k1, k2, k3, k4⟩⟩
theorem len6 {l : List Value} (h : l.length = 6) : ∃ c0 c1 c2 c3 c4 c5, l = [c0, c1, c2, c3, c4, c5] := by
  match l, h with
  | [c0, c1, c2, c3, c4, c5], _ => exact ⟨_, _, _, _, _, _, rfl⟩
theorem opens107 : Opens Try.prog 107 TResponse := fun H enc W sp held fuel cs x hx => by
  have hu : Try.prog.underlying 107 = some (.struct #[⟨ "Status", 3, 0, false, "", "", 0⟩, ⟨ "Kind", 3, 1, false, "", "", 8⟩, ⟨ "Body", 9, 2, false, "", "", 16⟩, ⟨ "Age", 3, 3, false, "", "", 32⟩, ⟨ "Shares", 4, 4, false, "", "", 40⟩, ⟨ "Policy", 9, 5, false, "", "", 48⟩]) := by kernel_rfl
  obtain ⟨hl, fuel1, hp⟩ := trod_pieces hu hx
  have hn : Try.prog.cellsOf 107 = 6 := by kernel_rfl
  rw [hn] at hl
  obtain ⟨c0, c1, c2, c3, c4, c5, rfl⟩ := len6 hl
  obtain ⟨y0, hy0⟩ := hp ⟨ "Status", 3, 0, false, "", "", 0⟩ (by simp)
  have z0 : Try.prog.cellsOf 3 = 1 := by kernel_rfl
  simp only [z0] at hy0
  obtain ⟨d0, e0, k0⟩ := opens3 _ _ _ _ _ _ _ _ hy0
  replace e0 : [c0] = [I d0] := e0
  simp only [List.cons.injEq, and_true] at e0
  obtain rfl := e0
  obtain ⟨y1, hy1⟩ := hp ⟨ "Kind", 3, 1, false, "", "", 8⟩ (by simp)
  have z1 : Try.prog.cellsOf 3 = 1 := by kernel_rfl
  simp only [z1] at hy1
  obtain ⟨d1, e1, k1⟩ := opens3 _ _ _ _ _ _ _ _ hy1
  replace e1 : [c1] = [I d1] := e1
  simp only [List.cons.injEq, and_true] at e1
  obtain rfl := e1
  obtain ⟨y2, hy2⟩ := hp ⟨ "Body", 9, 2, false, "", "", 16⟩ (by simp)
  have z2 : Try.prog.cellsOf 9 = 1 := by kernel_rfl
  simp only [z2] at hy2
  obtain ⟨d2, e2, k2⟩ := opens9 _ _ _ _ _ _ _ _ hy2
  replace e2 : [c2] = [S d2] := e2
  simp only [List.cons.injEq, and_true] at e2
  obtain rfl := e2
  obtain ⟨y3, hy3⟩ := hp ⟨ "Age", 3, 3, false, "", "", 32⟩ (by simp)
  have z3 : Try.prog.cellsOf 3 = 1 := by kernel_rfl
  simp only [z3] at hy3
  obtain ⟨d3, e3, k3⟩ := opens3 _ _ _ _ _ _ _ _ hy3
  replace e3 : [c3] = [I d3] := e3
  simp only [List.cons.injEq, and_true] at e3
  obtain rfl := e3
  obtain ⟨y4, hy4⟩ := hp ⟨ "Shares", 4, 4, false, "", "", 40⟩ (by simp)
  have z4 : Try.prog.cellsOf 4 = 1 := by kernel_rfl
  simp only [z4] at hy4
  obtain ⟨d4, e4, k4⟩ := opens4 _ _ _ _ _ _ _ _ hy4
  replace e4 : [c4] = [Bo d4] := e4
  simp only [List.cons.injEq, and_true] at e4
  obtain rfl := e4
  obtain ⟨y5, hy5⟩ := hp ⟨ "Policy", 9, 5, false, "", "", 48⟩ (by simp)
  have z5 : Try.prog.cellsOf 9 = 1 := by kernel_rfl
  simp only [z5] at hy5
  obtain ⟨d5, e5, k5⟩ := opens9 _ _ _ _ _ _ _ _ hy5
  replace e5 : [c5] = [S d5] := e5
  simp only [List.cons.injEq, and_true] at e5
  obtain rfl := e5
  exact ⟨⟨d0, d1, d2, d3, d4, d5⟩, rfl, ⟨k0, k1, k2, k3, k4, k5⟩⟩
theorem len10 {l : List Value} (h : l.length = 10) : ∃ c0 c1 c2 c3 c4 c5 c6 c7 c8 c9, l = [c0, c1, c2, c3, c4, c5, c6, c7, c8, c9] := by
  match l, h with
  | [c0, c1, c2, c3, c4, c5, c6, c7, c8, c9], _ => exact ⟨_, _, _, _, _, _, _, _, _, _, rfl⟩
theorem opens109 : Opens Try.prog 109 TEntry := fun H enc W sp held fuel cs x hx => by
  have hu : Try.prog.underlying 109 = some (.struct #[⟨ "Top", 9, 0, false, "", "", 0⟩, ⟨ "To", 23, 1, false, "", "", 16⟩, ⟨ "Response", 107, 3, false, "", "", 48⟩, ⟨ "Until", 3, 9, false, "", "", 112⟩]) := by kernel_rfl
  obtain ⟨hl, fuel1, hp⟩ := trod_pieces hu hx
  have hn : Try.prog.cellsOf 109 = 10 := by kernel_rfl
  rw [hn] at hl
  obtain ⟨c0, c1, c2, c3, c4, c5, c6, c7, c8, c9, rfl⟩ := len10 hl
  obtain ⟨y0, hy0⟩ := hp ⟨ "Top", 9, 0, false, "", "", 0⟩ (by simp)
  have z0 : Try.prog.cellsOf 9 = 1 := by kernel_rfl
  simp only [z0] at hy0
  obtain ⟨d0, e0, k0⟩ := opens9 _ _ _ _ _ _ _ _ hy0
  replace e0 : [c0] = [S d0] := e0
  simp only [List.cons.injEq, and_true] at e0
  obtain rfl := e0
  obtain ⟨y1, hy1⟩ := hp ⟨ "To", 23, 1, false, "", "", 16⟩ (by simp)
  have z1 : Try.prog.cellsOf 23 = 2 := by kernel_rfl
  simp only [z1] at hy1
  obtain ⟨d1, e1, k1⟩ := opens23 _ _ _ _ _ _ _ _ hy1
  replace e1 : [c1, c2] = [S d1.host, S d1.path] := e1
  simp only [List.cons.injEq, and_true] at e1
  obtain ⟨rfl, rfl⟩ := e1
  obtain ⟨y2, hy2⟩ := hp ⟨ "Response", 107, 3, false, "", "", 48⟩ (by simp)
  have z2 : Try.prog.cellsOf 107 = 6 := by kernel_rfl
  simp only [z2] at hy2
  obtain ⟨d2, e2, k2⟩ := opens107 _ _ _ _ _ _ _ _ hy2
  replace e2 : [c3, c4, c5, c6, c7, c8] = [I d2.status, I d2.kind, S d2.body, I d2.age, Bo d2.shares, S d2.policy] := e2
  simp only [List.cons.injEq, and_true] at e2
  obtain ⟨rfl, rfl, rfl, rfl, rfl, rfl⟩ := e2
  obtain ⟨y3, hy3⟩ := hp ⟨ "Until", 3, 9, false, "", "", 112⟩ (by simp)
  have z3 : Try.prog.cellsOf 3 = 1 := by kernel_rfl
  simp only [z3] at hy3
  obtain ⟨d3, e3, k3⟩ := opens3 _ _ _ _ _ _ _ _ hy3
  replace e3 : [c9] = [I d3] := e3
  simp only [List.cons.injEq, and_true] at e3
  obtain rfl := e3
  exact ⟨⟨d0, d1, d2, d3⟩, rfl, ⟨k0, k1, k2, k3⟩⟩
theorem opens58 : Opens Try.prog 58 (Sl TEntry) := Opens.slice (el := 109) (by kernel_rfl) (by kernel_rfl) opens109
theorem len1 {l : List Value} (h : l.length = 1) : ∃ c0, l = [c0] := by
  match l, h with
  | [c0], _ => exact ⟨_, rfl⟩
theorem opens60 : Opens Try.prog 60 PCache := fun H enc W sp held fuel cs x hx => by
  have hu : Try.prog.underlying 60 = some (.struct #[⟨ "Entries", 58, 0, false, "", "", 0⟩]) := by kernel_rfl
  obtain ⟨hl, fuel1, hp⟩ := trod_pieces hu hx
  have hn : Try.prog.cellsOf 60 = 1 := by kernel_rfl
  rw [hn] at hl
  obtain ⟨c0, rfl⟩ := len1 hl
  obtain ⟨y0, hy0⟩ := hp ⟨ "Entries", 58, 0, false, "", "", 0⟩ (by simp)
  have z0 : Try.prog.cellsOf 58 = 1 := by kernel_rfl
  simp only [z0] at hy0
  obtain ⟨d0, e0, k0⟩ := opens58 _ _ _ _ _ _ _ _ hy0
  replace e0 : [c0] = [Sl.v d0] := e0
  simp only [List.cons.injEq, and_true] at e0
  obtain rfl := e0
  exact ⟨⟨d0⟩, rfl, ⟨k0⟩⟩

end Go.Sw
