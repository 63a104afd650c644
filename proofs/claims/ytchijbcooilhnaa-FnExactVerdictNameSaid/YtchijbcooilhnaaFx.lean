/- Facts on the types and functions of this translation, each closed. No conditions. -/
import Derived.Test.YtchijbcooilhnaaRows
import Derived.Test.YtchijbcooilhnaaLibP
import Derived.WalkSpells
namespace Go.Sw
open Go Go.RowKit Go.Proofs

theorem fn27 : FN Try.prog 27 := FN.of Try.func27 (by kernel_rfl) (by kernel_rfl)
theorem sll39 : SlLit Try.prog 39 9 1 [.string ⟨#[]⟩] := SlLit.of (zv := .string ⟨#[]⟩) (by kernel_rfl) (by kernel_rfl) (by kernel_rfl) rfl
theorem slt39 : SlT Try.prog 39 9 1 := ⟨by kernel_rfl, by kernel_rfl⟩
theorem sca9 : Sca Try.prog 9 := Sca.of (by kernel_rfl) (by kernel_rfl)
theorem fn28 : FN Try.prog 28 := FN.of Try.func28 (by kernel_rfl) (by kernel_rfl)
theorem zt26 : ZT Try.prog 26 [.int .i64 0, .int .i64 0, .string ⟨#[]⟩, .int .i64 0, .bool false, .string ⟨#[]⟩] := ZT.of (z := .agg #[.int .i64 0, .int .i64 0, .string ⟨#[]⟩, .int .i64 0, .bool false, .string ⟨#[]⟩]) (by kernel_rfl) rfl
theorem bt26 : BT Try.prog 26 [.int .i64 0, .int .i64 0, .string ⟨#[]⟩, .int .i64 0, .bool false, .string ⟨#[]⟩] [(0, 1), (1, 1), (2, 1), (3, 1), (4, 1), (5, 1)] := BT.of (z := .agg #[.int .i64 0, .int .i64 0, .string ⟨#[]⟩, .int .i64 0, .bool false, .string ⟨#[]⟩]) (by kernel_rfl) (by kernel_rfl) rfl (fun w => by kernel_rfl)
theorem szf26 : (Try.prog.info? 26).map (·.size) = some 6 := by kernel_rfl
theorem agg26 : Agg Try.prog 26 6 := Agg.of (by kernel_rfl) (by kernel_rfl)
theorem fa26_0 : FA Try.prog 26 0 0 := FA.of (T := 3) (k := 0) (by kernel_rfl) (by kernel_rfl)
theorem sca3 : Sca Try.prog 3 := Sca.of (by kernel_rfl) (by kernel_rfl)
theorem fa26_1 : FA Try.prog 26 1 1 := FA.of (T := 3) (k := 0) (by kernel_rfl) (by kernel_rfl)
theorem fa26_2 : FA Try.prog 26 2 2 := FA.of (T := 9) (k := 0) (by kernel_rfl) (by kernel_rfl)
theorem fa26_3 : FA Try.prog 26 3 3 := FA.of (T := 3) (k := 0) (by kernel_rfl) (by kernel_rfl)
theorem fa26_4 : FA Try.prog 26 4 4 := FA.of (T := 4) (k := 0) (by kernel_rfl) (by kernel_rfl)
theorem sca4 : Sca Try.prog 4 := Sca.of (by kernel_rfl) (by kernel_rfl)
theorem bool4 : Try.prog.underlying 4 = some .bool := by kernel_rfl
theorem fa26_5 : FA Try.prog 26 5 5 := FA.of (T := 9) (k := 0) (by kernel_rfl) (by kernel_rfl)
theorem fa30_2 : FA Try.prog 30 2 2 := FA.of (T := 9) (k := 0) (by kernel_rfl) (by kernel_rfl)
theorem str9 : Try.prog.underlying 9 = some .string := by kernel_rfl
theorem fa30_5 : FA Try.prog 30 5 5 := FA.of (T := 9) (k := 0) (by kernel_rfl) (by kernel_rfl)
theorem fa30_0 : FA Try.prog 30 0 0 := FA.of (T := 3) (k := 0) (by kernel_rfl) (by kernel_rfl)
theorem szf3 : (Try.prog.info? 3).map (·.size) = some 1 := by kernel_rfl
theorem fa30_1 : FA Try.prog 30 1 1 := FA.of (T := 3) (k := 0) (by kernel_rfl) (by kernel_rfl)
theorem szf9 : (Try.prog.info? 9).map (·.size) = some 1 := by kernel_rfl
theorem fa30_3 : FA Try.prog 30 3 3 := FA.of (T := 3) (k := 0) (by kernel_rfl) (by kernel_rfl)
theorem fa30_4 : FA Try.prog 30 4 4 := FA.of (T := 4) (k := 0) (by kernel_rfl) (by kernel_rfl)
theorem szf4 : (Try.prog.info? 4).map (·.size) = some 1 := by kernel_rfl
theorem eqin26 (d : Nat) (x y : TResponse) (w : World) : (Op.equalIn (d + 2) 26 (.agg #[I x.status, I x.kind, S x.body, I x.age, Bo x.shares, S x.policy]) (.agg #[I y.status, I y.kind, S y.body, I y.age, Bo y.shares, S y.policy])).run Try.prog w = .ok (decide (x = y)) w := by
  have hf : Try.prog.fieldsOf 26 = #[⟨ "Status", 3, 0, false, "", "", 0⟩, ⟨ "Kind", 3, 1, false, "", "", 8⟩, ⟨ "Body", 9, 2, false, "", "", 16⟩, ⟨ "Age", 3, 3, false, "", "", 32⟩, ⟨ "Shares", 4, 4, false, "", "", 40⟩, ⟨ "Policy", 9, 5, false, "", "", 48⟩] := by kernel_rfl
  rw [run_equalIn_agg w (d + 1) 26 _ _ (by kernel_rfl) (by kernel_rfl), hf]
  simp [Op.eqFields, go_sem, TResponse.ext_iff]
  try ((repeat' split) <;> simp_all)
theorem eqt26 : EqT Try.prog 26 (α := TResponse) := run_eqt_of (eqin26 9998) (by kernel_rfl)
theorem fn10 : FN Try.prog 10 := FN.of Try.func10 (by kernel_rfl) (by kernel_rfl)
theorem fn11 : FN Try.prog 11 := FN.of Try.func11 (by kernel_rfl) (by kernel_rfl)
theorem fn12 : FN Try.prog 12 := FN.of Try.func12 (by kernel_rfl) (by kernel_rfl)
theorem fn13 : FN Try.prog 13 := FN.of Try.func13 (by kernel_rfl) (by kernel_rfl)
theorem fn14 : FN Try.prog 14 := FN.of Try.func14 (by kernel_rfl) (by kernel_rfl)
theorem fn15 : FN Try.prog 15 := FN.of Try.func15 (by kernel_rfl) (by kernel_rfl)
theorem fn16 : FN Try.prog 16 := FN.of Try.func16 (by kernel_rfl) (by kernel_rfl)
theorem fn17 : FN Try.prog 17 := FN.of Try.func17 (by kernel_rfl) (by kernel_rfl)
theorem fn18 : FN Try.prog 18 := FN.of Try.func18 (by kernel_rfl) (by kernel_rfl)
theorem agg30 : Agg Try.prog 30 6 := Agg.of (by kernel_rfl) (by kernel_rfl)
theorem fn19 : FN Try.prog 19 := FN.of Try.func19 (by kernel_rfl) (by kernel_rfl)
theorem mixed : Try.prog.follows .mixedOrders = true := by kernel_rfl
theorem fn21 : FN Try.prog 21 := FN.of Try.func21 (by kernel_rfl) (by kernel_rfl)
theorem fn20 : FN Try.prog 20 := FN.of Try.func20 (by kernel_rfl) (by kernel_rfl)
theorem fn22 : FN Try.prog 22 := FN.of Try.func22 (by kernel_rfl) (by kernel_rfl)
theorem fn23 : FN Try.prog 23 := FN.of Try.func23 (by kernel_rfl) (by kernel_rfl)
theorem fn24 : FN Try.prog 24 := FN.of Try.func24 (by kernel_rfl) (by kernel_rfl)
theorem fn25 : FN Try.prog 25 := FN.of Try.func25 (by kernel_rfl) (by kernel_rfl)
theorem fn26 : FN Try.prog 26 := FN.of Try.func26 (by kernel_rfl) (by kernel_rfl)

end Go.Sw
