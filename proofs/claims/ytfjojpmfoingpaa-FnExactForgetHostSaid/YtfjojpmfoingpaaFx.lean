/- Facts on the types and functions of this translation, each closed. No conditions. -/
import Derived.Test.YtfjojpmfoingpaaRows
import Derived.Test.YtfjojpmfoingpaaLibH
import Derived.WalkSpells
namespace Go.Sw
open Go Go.RowKit Go.Proofs

theorem fa39_0 : FA Try.prog 39 0 0 := FA.of (T := 9) (k := 0) (by kernel_rfl) (by kernel_rfl)
theorem sca9 : Sca Try.prog 9 := Sca.of (by kernel_rfl) (by kernel_rfl)
theorem str9 : Try.prog.underlying 9 = some .string := by kernel_rfl
theorem fa39_1 : FA Try.prog 39 1 1 := FA.of (T := 9) (k := 0) (by kernel_rfl) (by kernel_rfl)
theorem fa188_2 : FA Try.prog 188 2 2 := FA.of (T := 9) (k := 0) (by kernel_rfl) (by kernel_rfl)
theorem fa188_5 : FA Try.prog 188 5 5 := FA.of (T := 9) (k := 0) (by kernel_rfl) (by kernel_rfl)
theorem fa190_0 : FA Try.prog 190 0 0 := FA.of (T := 9) (k := 0) (by kernel_rfl) (by kernel_rfl)
theorem fa190_1 : FA Try.prog 190 1 1 := FA.of (T := 39) (k := 1) (by kernel_rfl) (by kernel_rfl)
theorem agg39 : Agg Try.prog 39 2 := Agg.of (by kernel_rfl) (by kernel_rfl)
theorem fn29 : FN Try.prog 29 := FN.of Try.func29 (by kernel_rfl) (by kernel_rfl)
theorem fa190_2 : FA Try.prog 190 2 3 := FA.of (T := 188) (k := 5) (by kernel_rfl) (by kernel_rfl)
theorem agg188 : Agg Try.prog 188 6 := Agg.of (by kernel_rfl) (by kernel_rfl)
theorem fn169 : FN Try.prog 169 := FN.of Try.func169 (by kernel_rfl) (by kernel_rfl)
theorem slu56 : Try.prog.underlying 56 = some (.slice 190) := by kernel_rfl
theorem slt56 : SlT Try.prog 56 190 10 := ⟨by kernel_rfl, by kernel_rfl⟩
theorem agg190 : Agg Try.prog 190 10 := Agg.of (by kernel_rfl) (by kernel_rfl)
theorem fn142 : FN Try.prog 142 := FN.of Try.func142 (by kernel_rfl) (by kernel_rfl)
theorem fa58_0 : FA Try.prog 58 0 0 := FA.of (T := 56) (k := 0) (by kernel_rfl) (by kernel_rfl)
theorem sca56 : Sca Try.prog 56 := Sca.of (by kernel_rfl) (by kernel_rfl)
theorem fn87 : FN Try.prog 87 := FN.of Try.func87 (by kernel_rfl) (by kernel_rfl)
theorem zt62 : ZT Try.prog 62 [.slice none 0 0] := ZT.of (z := .agg #[.slice none 0 0]) (by kernel_rfl) rfl
theorem bt62 : BT Try.prog 62 [.slice none 0 0] [(0, 1)] := BT.of (z := .agg #[.slice none 0 0]) (by kernel_rfl) (by kernel_rfl) rfl (fun w => by kernel_rfl)
theorem szf62 : (Try.prog.info? 62).map (·.size) = some 1 := by kernel_rfl
theorem fa62_0 : FA Try.prog 62 0 0 := FA.of (T := 60) (k := 0) (by kernel_rfl) (by kernel_rfl)
theorem sca60 : Sca Try.prog 60 := Sca.of (by kernel_rfl) (by kernel_rfl)
theorem slu60 : Try.prog.underlying 60 = some (.slice 138) := by kernel_rfl
theorem slt60 : SlT Try.prog 60 138 10 := ⟨by kernel_rfl, by kernel_rfl⟩
theorem fa138_0 : FA Try.prog 138 0 0 := FA.of (T := 9) (k := 0) (by kernel_rfl) (by kernel_rfl)
theorem mixed : Try.prog.follows .mixedOrders = true := by kernel_rfl
theorem agg138 : Agg Try.prog 138 10 := Agg.of (by kernel_rfl) (by kernel_rfl)
theorem sll60 : SlLit Try.prog 60 138 10 [.string ⟨#[]⟩, .string ⟨#[]⟩, .string ⟨#[]⟩, .int .i64 0, .int .i64 0, .string ⟨#[]⟩, .int .i64 0, .bool false, .string ⟨#[]⟩, .int .i64 0] := SlLit.of (zv := .agg #[.string ⟨#[]⟩, .string ⟨#[]⟩, .string ⟨#[]⟩, .int .i64 0, .int .i64 0, .string ⟨#[]⟩, .int .i64 0, .bool false, .string ⟨#[]⟩, .int .i64 0]) (by kernel_rfl) (by kernel_rfl) (by kernel_rfl) rfl
theorem elt60 : ElT Try.prog 60 138 (⟨[], ⟨[], []⟩, ⟨0, 0, [], 0, false, []⟩, 0⟩ : TEntry) 120 := ElT.of (zv := .agg #[.string ⟨#[]⟩, .string ⟨#[]⟩, .string ⟨#[]⟩, .int .i64 0, .int .i64 0, .string ⟨#[]⟩, .int .i64 0, .bool false, .string ⟨#[]⟩, .int .i64 0]) (by kernel_rfl) (by kernel_rfl) rfl (fun w => own_flat (TEntry.zok w))
theorem szf60 : (Try.prog.info? 60).map (·.size) = some 1 := by kernel_rfl
theorem agg62 : Agg Try.prog 62 1 := Agg.of (by kernel_rfl) (by kernel_rfl)
theorem zt44 : ZT Try.prog 44 [.string ⟨#[]⟩, .string ⟨#[]⟩] := ZT.of (z := .agg #[.string ⟨#[]⟩, .string ⟨#[]⟩]) (by kernel_rfl) rfl
theorem fa44_0 : FA Try.prog 44 0 0 := FA.of (T := 9) (k := 0) (by kernel_rfl) (by kernel_rfl)
theorem szf9 : (Try.prog.info? 9).map (·.size) = some 1 := by kernel_rfl
theorem fa44_1 : FA Try.prog 44 1 1 := FA.of (T := 9) (k := 0) (by kernel_rfl) (by kernel_rfl)
theorem agg44 : Agg Try.prog 44 2 := Agg.of (by kernel_rfl) (by kernel_rfl)
theorem szf44 : (Try.prog.info? 44).map (·.size) = some 2 := by kernel_rfl
theorem zt51 : ZT Try.prog 51 [.int .i64 0, .int .i64 0, .string ⟨#[]⟩, .int .i64 0, .bool false, .string ⟨#[]⟩] := ZT.of (z := .agg #[.int .i64 0, .int .i64 0, .string ⟨#[]⟩, .int .i64 0, .bool false, .string ⟨#[]⟩]) (by kernel_rfl) rfl
theorem fa188_0 : FA Try.prog 188 0 0 := FA.of (T := 3) (k := 0) (by kernel_rfl) (by kernel_rfl)
theorem sca3 : Sca Try.prog 3 := Sca.of (by kernel_rfl) (by kernel_rfl)
theorem fa51_0 : FA Try.prog 51 0 0 := FA.of (T := 3) (k := 0) (by kernel_rfl) (by kernel_rfl)
theorem szf3 : (Try.prog.info? 3).map (·.size) = some 1 := by kernel_rfl
theorem fa188_1 : FA Try.prog 188 1 1 := FA.of (T := 3) (k := 0) (by kernel_rfl) (by kernel_rfl)
theorem fa51_1 : FA Try.prog 51 1 1 := FA.of (T := 3) (k := 0) (by kernel_rfl) (by kernel_rfl)
theorem fa51_2 : FA Try.prog 51 2 2 := FA.of (T := 9) (k := 0) (by kernel_rfl) (by kernel_rfl)
theorem fa188_3 : FA Try.prog 188 3 3 := FA.of (T := 3) (k := 0) (by kernel_rfl) (by kernel_rfl)
theorem fa51_3 : FA Try.prog 51 3 3 := FA.of (T := 3) (k := 0) (by kernel_rfl) (by kernel_rfl)
theorem fa188_4 : FA Try.prog 188 4 4 := FA.of (T := 4) (k := 0) (by kernel_rfl) (by kernel_rfl)
theorem sca4 : Sca Try.prog 4 := Sca.of (by kernel_rfl) (by kernel_rfl)
theorem fa51_4 : FA Try.prog 51 4 4 := FA.of (T := 4) (k := 0) (by kernel_rfl) (by kernel_rfl)
theorem szf4 : (Try.prog.info? 4).map (·.size) = some 1 := by kernel_rfl
theorem fa51_5 : FA Try.prog 51 5 5 := FA.of (T := 9) (k := 0) (by kernel_rfl) (by kernel_rfl)
theorem agg51 : Agg Try.prog 51 6 := Agg.of (by kernel_rfl) (by kernel_rfl)
theorem szf51 : (Try.prog.info? 51).map (·.size) = some 6 := by kernel_rfl
theorem zt138 : ZT Try.prog 138 [.string ⟨#[]⟩, .string ⟨#[]⟩, .string ⟨#[]⟩, .int .i64 0, .int .i64 0, .string ⟨#[]⟩, .int .i64 0, .bool false, .string ⟨#[]⟩, .int .i64 0] := ZT.of (z := .agg #[.string ⟨#[]⟩, .string ⟨#[]⟩, .string ⟨#[]⟩, .int .i64 0, .int .i64 0, .string ⟨#[]⟩, .int .i64 0, .bool false, .string ⟨#[]⟩, .int .i64 0]) (by kernel_rfl) rfl
theorem fn31 : FN Try.prog 31 := FN.of Try.func31 (by kernel_rfl) (by kernel_rfl)
theorem fa138_1 : FA Try.prog 138 1 1 := FA.of (T := 44) (k := 1) (by kernel_rfl) (by kernel_rfl)
theorem fn170 : FN Try.prog 170 := FN.of Try.func170 (by kernel_rfl) (by kernel_rfl)
theorem fa138_2 : FA Try.prog 138 2 3 := FA.of (T := 51) (k := 5) (by kernel_rfl) (by kernel_rfl)
theorem fa190_3 : FA Try.prog 190 3 9 := FA.of (T := 3) (k := 0) (by kernel_rfl) (by kernel_rfl)
theorem fa138_3 : FA Try.prog 138 3 9 := FA.of (T := 3) (k := 0) (by kernel_rfl) (by kernel_rfl)
theorem szf138 : (Try.prog.info? 138).map (·.size) = some 10 := by kernel_rfl
theorem fn143 : FN Try.prog 143 := FN.of Try.func143 (by kernel_rfl) (by kernel_rfl)
theorem fn88 : FN Try.prog 88 := FN.of Try.func88 (by kernel_rfl) (by kernel_rfl)
theorem fn144 : FN Try.prog 144 := FN.of Try.func144 (by kernel_rfl) (by kernel_rfl)
theorem fn89 : FN Try.prog 89 := FN.of Try.func89 (by kernel_rfl) (by kernel_rfl)
theorem fn90 : FN Try.prog 90 := FN.of Try.func90 (by kernel_rfl) (by kernel_rfl)
theorem fn91 : FN Try.prog 91 := FN.of Try.func91 (by kernel_rfl) (by kernel_rfl)
theorem bool4 : Try.prog.underlying 4 = some .bool := by kernel_rfl
theorem fn117 : FN Try.prog 117 := FN.of Try.func117 (by kernel_rfl) (by kernel_rfl)
theorem fn33 : FN Try.prog 33 := FN.of Try.func33 (by kernel_rfl) (by kernel_rfl)
theorem fn145 : FN Try.prog 145 := FN.of Try.func145 (by kernel_rfl) (by kernel_rfl)
theorem fn92 : FN Try.prog 92 := FN.of Try.func92 (by kernel_rfl) (by kernel_rfl)
theorem u8t5 : Try.prog.underlying 5 = some (.int .u8) := by kernel_rfl
theorem sll199 : SlLit Try.prog 199 5 1 [.int .u8 0] := SlLit.of (zv := .int .u8 0) (by kernel_rfl) (by kernel_rfl) (by kernel_rfl) rfl
theorem slu199 : Try.prog.underlying 199 = some (.slice 5) := by kernel_rfl
theorem fn103 : FN Try.prog 103 := FN.of Try.func103 (by kernel_rfl) (by kernel_rfl)
theorem fn93 : FN Try.prog 93 := FN.of Try.func93 (by kernel_rfl) (by kernel_rfl)
theorem fn94 : FN Try.prog 94 := FN.of Try.func94 (by kernel_rfl) (by kernel_rfl)
theorem agg58 : Agg Try.prog 58 1 := Agg.of (by kernel_rfl) (by kernel_rfl)
theorem fn34 : FN Try.prog 34 := FN.of Try.func34 (by kernel_rfl) (by kernel_rfl)
theorem fn36 : FN Try.prog 36 := FN.of Try.func36 (by kernel_rfl) (by kernel_rfl)
theorem fn35 : FN Try.prog 35 := FN.of Try.func35 (by kernel_rfl) (by kernel_rfl)
theorem fn37 : FN Try.prog 37 := FN.of Try.func37 (by kernel_rfl) (by kernel_rfl)
theorem fn38 : FN Try.prog 38 := FN.of Try.func38 (by kernel_rfl) (by kernel_rfl)
theorem fn39 : FN Try.prog 39 := FN.of Try.func39 (by kernel_rfl) (by kernel_rfl)
theorem fn40 : FN Try.prog 40 := FN.of Try.func40 (by kernel_rfl) (by kernel_rfl)

end Go.Sw
