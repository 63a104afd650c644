/- How arguments that read as data open, type by type. No conditions. -/
import Derived.Test.YtppjnohcfljmoaaDoorFx
import Derived.Test.YtppjnohcfljmoaaDoorLibV
namespace Go.Sw
open Go Go.RowKit Go.Proofs

theorem own_ : ownKnob Tryd.prog.godebug = none := by kernel_rfl
theorem laidOut_ : laidOutB Tryd.prog = true := by kernel_rfl
theorem maxlen_ (w : World) (h : w.ShapedOpen Tryd.prog) : ∃ m, w.cell? ⟨3, 0, none⟩ = some (.int .i64 m) := Go.Proofs.cell_of_shapedOpen_int (zero := #[.int .i64 0]) (t := 3) h (of_decide_eq_true (by kernel_rfl)) (by kernel_rfl) rfl (by kernel_rfl) (by kernel_rfl) Tryd.underlying3
theorem opens9 : Opens Tryd.prog 9 Str := Opens.str (by kernel_rfl)
theorem opens3 : Opens Tryd.prog 3 Int := Opens.int (by kernel_rfl)
theorem opens4 : Opens Tryd.prog 4 Bool := Opens.bool (by kernel_rfl)
theorem len6 {l : List Value} (h : l.length = 6) : ∃ c0 c1 c2 c3 c4 c5, l = [c0, c1, c2, c3, c4, c5] := by
  match l, h with
  | [c0, c1, c2, c3, c4, c5], _ => exact ⟨_, _, _, _, _, _, rfl⟩
theorem opens27 : Opens Tryd.prog 27 TResponse := fun H enc W sp held fuel cs x hx => by
  have hu : Tryd.prog.underlying 27 = some (.struct #[⟨ "Status", 3, 0, false, "", "", 0⟩, ⟨ "Kind", 3, 1, false, "", "", 8⟩, ⟨ "Body", 9, 2, false, "", "", 16⟩, ⟨ "Age", 3, 3, false, "", "", 32⟩, ⟨ "Shares", 4, 4, false, "", "", 40⟩, ⟨ "Policy", 9, 5, false, "", "", 48⟩]) := by kernel_rfl
  obtain ⟨hl, fuel1, hp⟩ := trod_pieces hu hx
  have hn : Tryd.prog.cellsOf 27 = 6 := by kernel_rfl
  rw [hn] at hl
  obtain ⟨c0, c1, c2, c3, c4, c5, rfl⟩ := len6 hl
  obtain ⟨y0, hy0⟩ := hp ⟨ "Status", 3, 0, false, "", "", 0⟩ (by simp)
  have z0 : Tryd.prog.cellsOf 3 = 1 := by kernel_rfl
  simp only [z0] at hy0
  obtain ⟨d0, e0, k0⟩ := opens3 _ _ _ _ _ _ _ _ hy0
  replace e0 : [c0] = [I d0] := e0
  simp only [List.cons.injEq, and_true] at e0
  obtain rfl := e0
  obtain ⟨y1, hy1⟩ := hp ⟨ "Kind", 3, 1, false, "", "", 8⟩ (by simp)
  have z1 : Tryd.prog.cellsOf 3 = 1 := by kernel_rfl
  simp only [z1] at hy1
  obtain ⟨d1, e1, k1⟩ := opens3 _ _ _ _ _ _ _ _ hy1
  replace e1 : [c1] = [I d1] := e1
  simp only [List.cons.injEq, and_true] at e1
  obtain rfl := e1
  obtain ⟨y2, hy2⟩ := hp ⟨ "Body", 9, 2, false, "", "", 16⟩ (by simp)
  have z2 : Tryd.prog.cellsOf 9 = 1 := by kernel_rfl
  simp only [z2] at hy2
  obtain ⟨d2, e2, k2⟩ := opens9 _ _ _ _ _ _ _ _ hy2
  replace e2 : [c2] = [S d2] := e2
  simp only [List.cons.injEq, and_true] at e2
  obtain rfl := e2
  obtain ⟨y3, hy3⟩ := hp ⟨ "Age", 3, 3, false, "", "", 32⟩ (by simp)
  have z3 : Tryd.prog.cellsOf 3 = 1 := by kernel_rfl
  simp only [z3] at hy3
  obtain ⟨d3, e3, k3⟩ := opens3 _ _ _ _ _ _ _ _ hy3
  replace e3 : [c3] = [I d3] := e3
  simp only [List.cons.injEq, and_true] at e3
  obtain rfl := e3
  obtain ⟨y4, hy4⟩ := hp ⟨ "Shares", 4, 4, false, "", "", 40⟩ (by simp)
  have z4 : Tryd.prog.cellsOf 4 = 1 := by kernel_rfl
  simp only [z4] at hy4
  obtain ⟨d4, e4, k4⟩ := opens4 _ _ _ _ _ _ _ _ hy4
  replace e4 : [c4] = [Bo d4] := e4
  simp only [List.cons.injEq, and_true] at e4
  obtain rfl := e4
  obtain ⟨y5, hy5⟩ := hp ⟨ "Policy", 9, 5, false, "", "", 48⟩ (by simp)
  have z5 : Tryd.prog.cellsOf 9 = 1 := by kernel_rfl
  simp only [z5] at hy5
  obtain ⟨d5, e5, k5⟩ := opens9 _ _ _ _ _ _ _ _ hy5
  replace e5 : [c5] = [S d5] := e5
  simp only [List.cons.injEq, and_true] at e5
  obtain rfl := e5
  exact ⟨⟨d0, d1, d2, d3, d4, d5⟩, rfl, ⟨k0, k1, k2, k3, k4, k5⟩⟩
theorem len7 {l : List Value} (h : l.length = 7) : ∃ c0 c1 c2 c3 c4 c5 c6, l = [c0, c1, c2, c3, c4, c5, c6] := by
  match l, h with
  | [c0, c1, c2, c3, c4, c5, c6], _ => exact ⟨_, _, _, _, _, _, _, rfl⟩
theorem opens75 : Opens Tryd.prog 75 TFile := fun H enc W sp held fuel cs x hx => by
  have hu : Tryd.prog.underlying 75 = some (.struct #[⟨ "Path", 9, 0, false, "", "", 0⟩, ⟨ "Response", 27, 1, false, "", "", 16⟩]) := by kernel_rfl
  obtain ⟨hl, fuel1, hp⟩ := trod_pieces hu hx
  have hn : Tryd.prog.cellsOf 75 = 7 := by kernel_rfl
  rw [hn] at hl
  obtain ⟨c0, c1, c2, c3, c4, c5, c6, rfl⟩ := len7 hl
  obtain ⟨y0, hy0⟩ := hp ⟨ "Path", 9, 0, false, "", "", 0⟩ (by simp)
  have z0 : Tryd.prog.cellsOf 9 = 1 := by kernel_rfl
  simp only [z0] at hy0
  obtain ⟨d0, e0, k0⟩ := opens9 _ _ _ _ _ _ _ _ hy0
  replace e0 : [c0] = [S d0] := e0
  simp only [List.cons.injEq, and_true] at e0
  obtain rfl := e0
  obtain ⟨y1, hy1⟩ := hp ⟨ "Response", 27, 1, false, "", "", 16⟩ (by simp)
  have z1 : Tryd.prog.cellsOf 27 = 6 := by kernel_rfl
  simp only [z1] at hy1
  obtain ⟨d1, e1, k1⟩ := opens27 _ _ _ _ _ _ _ _ hy1
  replace e1 : [c1, c2, c3, c4, c5, c6] = [I d1.status, I d1.kind, S d1.body, I d1.age, Bo d1.shares, S d1.policy] := e1
  simp only [List.cons.injEq, and_true] at e1
  obtain ⟨rfl, rfl, rfl, rfl, rfl, rfl⟩ := e1
  exact ⟨⟨d0, d1⟩, rfl, ⟨k0, k1⟩⟩
theorem opens45 : Opens Tryd.prog 45 (Sl TFile) := Opens.slice (el := 75) (by kernel_rfl) (by kernel_rfl) opens75
theorem len2 {l : List Value} (h : l.length = 2) : ∃ c0 c1, l = [c0, c1] := by
  match l, h with
  | [c0, c1], _ => exact ⟨_, _, rfl⟩
theorem opens47 : Opens Tryd.prog 47 PServer := fun H enc W sp held fuel cs x hx => by
  have hu : Tryd.prog.underlying 47 = some (.struct #[⟨ "Host", 9, 0, false, "", "", 0⟩, ⟨ "Files", 45, 1, false, "", "", 16⟩]) := by kernel_rfl
  obtain ⟨hl, fuel1, hp⟩ := trod_pieces hu hx
  have hn : Tryd.prog.cellsOf 47 = 2 := by kernel_rfl
  rw [hn] at hl
  obtain ⟨c0, c1, rfl⟩ := len2 hl
  obtain ⟨y0, hy0⟩ := hp ⟨ "Host", 9, 0, false, "", "", 0⟩ (by simp)
  have z0 : Tryd.prog.cellsOf 9 = 1 := by kernel_rfl
  simp only [z0] at hy0
  obtain ⟨d0, e0, k0⟩ := opens9 _ _ _ _ _ _ _ _ hy0
  replace e0 : [c0] = [S d0] := e0
  simp only [List.cons.injEq, and_true] at e0
  obtain rfl := e0
  obtain ⟨y1, hy1⟩ := hp ⟨ "Files", 45, 1, false, "", "", 16⟩ (by simp)
  have z1 : Tryd.prog.cellsOf 45 = 1 := by kernel_rfl
  simp only [z1] at hy1
  obtain ⟨d1, e1, k1⟩ := opens45 _ _ _ _ _ _ _ _ hy1
  replace e1 : [c1] = [Sl.v d1] := e1
  simp only [List.cons.injEq, and_true] at e1
  obtain rfl := e1
  exact ⟨⟨d0, d1⟩, rfl, ⟨k0, k1⟩⟩
theorem opens23 : Opens Tryd.prog 23 (Sl PServer) := Opens.slice (el := 47) (by kernel_rfl) (by kernel_rfl) opens47
theorem opens25 : Opens Tryd.prog 25 TAddr := fun H enc W sp held fuel cs x hx => by
  have hu : Tryd.prog.underlying 25 = some (.struct #[⟨ "Host", 9, 0, false, "", "", 0⟩, ⟨ "Path", 9, 1, false, "", "", 16⟩]) := by kernel_rfl
  obtain ⟨hl, fuel1, hp⟩ := trod_pieces hu hx
  have hn : Tryd.prog.cellsOf 25 = 2 := by kernel_rfl
  rw [hn] at hl
  obtain ⟨c0, c1, rfl⟩ := len2 hl
  obtain ⟨y0, hy0⟩ := hp ⟨ "Host", 9, 0, false, "", "", 0⟩ (by simp)
  have z0 : Tryd.prog.cellsOf 9 = 1 := by kernel_rfl
  simp only [z0] at hy0
  obtain ⟨d0, e0, k0⟩ := opens9 _ _ _ _ _ _ _ _ hy0
  replace e0 : [c0] = [S d0] := e0
  simp only [List.cons.injEq, and_true] at e0
  obtain rfl := e0
  obtain ⟨y1, hy1⟩ := hp ⟨ "Path", 9, 1, false, "", "", 16⟩ (by simp)
  have z1 : Tryd.prog.cellsOf 9 = 1 := by kernel_rfl
  simp only [z1] at hy1
  obtain ⟨d1, e1, k1⟩ := opens9 _ _ _ _ _ _ _ _ hy1
  replace e1 : [c1] = [S d1] := e1
  simp only [List.cons.injEq, and_true] at e1
  obtain rfl := e1
  exact ⟨⟨d0, d1⟩, rfl, ⟨k0, k1⟩⟩

end Go.Sw
