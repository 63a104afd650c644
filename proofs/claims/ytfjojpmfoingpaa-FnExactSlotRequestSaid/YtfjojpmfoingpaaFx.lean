/- Facts on the types and functions of this translation, each closed. No conditions. -/
import Derived.Test.YtfjojpmfoingpaaRows
import Derived.Test.YtfjojpmfoingpaaLibP
import Derived.WalkSpells
namespace Go.Sw
open Go Go.RowKit Go.Proofs

theorem fa188_2 : FA Try.prog 188 2 2 := FA.of (T := 9) (k := 0) (by kernel_rfl) (by kernel_rfl)
theorem sca9 : Sca Try.prog 9 := Sca.of (by kernel_rfl) (by kernel_rfl)
theorem str9 : Try.prog.underlying 9 = some .string := by kernel_rfl
theorem fa188_5 : FA Try.prog 188 5 5 := FA.of (T := 9) (k := 0) (by kernel_rfl) (by kernel_rfl)
theorem fa228_0 : FA Try.prog 228 0 0 := FA.of (T := 9) (k := 0) (by kernel_rfl) (by kernel_rfl)
theorem fa228_1 : FA Try.prog 228 1 1 := FA.of (T := 188) (k := 5) (by kernel_rfl) (by kernel_rfl)
theorem agg188 : Agg Try.prog 188 6 := Agg.of (by kernel_rfl) (by kernel_rfl)
theorem fn169 : FN Try.prog 169 := FN.of Try.func169 (by kernel_rfl) (by kernel_rfl)
theorem slu119 : Try.prog.underlying 119 = some (.slice 228) := by kernel_rfl
theorem slt119 : SlT Try.prog 119 228 7 := ⟨by kernel_rfl, by kernel_rfl⟩
theorem agg228 : Agg Try.prog 228 7 := Agg.of (by kernel_rfl) (by kernel_rfl)
theorem fn166 : FN Try.prog 166 := FN.of Try.func166 (by kernel_rfl) (by kernel_rfl)
theorem fa121_0 : FA Try.prog 121 0 0 := FA.of (T := 9) (k := 0) (by kernel_rfl) (by kernel_rfl)
theorem fa121_1 : FA Try.prog 121 1 1 := FA.of (T := 119) (k := 0) (by kernel_rfl) (by kernel_rfl)
theorem sca119 : Sca Try.prog 119 := Sca.of (by kernel_rfl) (by kernel_rfl)
theorem fn128 : FN Try.prog 128 := FN.of Try.func128 (by kernel_rfl) (by kernel_rfl)
theorem slu32 : Try.prog.underlying 32 = some (.slice 121) := by kernel_rfl
theorem slt32 : SlT Try.prog 32 121 2 := ⟨by kernel_rfl, by kernel_rfl⟩
theorem agg121 : Agg Try.prog 121 2 := Agg.of (by kernel_rfl) (by kernel_rfl)
theorem fn71 : FN Try.prog 71 := FN.of Try.func71 (by kernel_rfl) (by kernel_rfl)
theorem slu35 : Try.prog.underlying 35 = some (.slice 124) := by kernel_rfl
theorem mixed : Try.prog.follows .mixedOrders = true := by kernel_rfl
theorem slt35 : SlT Try.prog 35 124 2 := ⟨by kernel_rfl, by kernel_rfl⟩
theorem fa124_0 : FA Try.prog 124 0 0 := FA.of (T := 9) (k := 0) (by kernel_rfl) (by kernel_rfl)
theorem fa124_1 : FA Try.prog 124 1 1 := FA.of (T := 122) (k := 0) (by kernel_rfl) (by kernel_rfl)
theorem sca122 : Sca Try.prog 122 := Sca.of (by kernel_rfl) (by kernel_rfl)
theorem slu122 : Try.prog.underlying 122 = some (.slice 126) := by kernel_rfl
theorem slt122 : SlT Try.prog 122 126 7 := ⟨by kernel_rfl, by kernel_rfl⟩
theorem agg126 : Agg Try.prog 126 7 := Agg.of (by kernel_rfl) (by kernel_rfl)
theorem eqin51 (d : Nat) (x y : TResponse) (w : World) : (Op.equalIn (d + 2) 51 (.agg #[I x.status, I x.kind, S x.body, I x.age, Bo x.shares, S x.policy]) (.agg #[I y.status, I y.kind, S y.body, I y.age, Bo y.shares, S y.policy])).run Try.prog w = .ok (decide (x = y)) w := by
  have hf : Try.prog.fieldsOf 51 = #[⟨ "Status", 3, 0, false, "", "", 0⟩, ⟨ "Kind", 3, 1, false, "", "", 8⟩, ⟨ "Body", 9, 2, false, "", "", 16⟩, ⟨ "Age", 3, 3, false, "", "", 32⟩, ⟨ "Shares", 4, 4, false, "", "", 40⟩, ⟨ "Policy", 9, 5, false, "", "", 48⟩] := by kernel_rfl
  rw [run_equalIn_agg w (d + 1) 51 _ _ (by kernel_rfl) (by kernel_rfl), hf]
  simp [Op.eqFields, go_sem, TResponse.ext_iff]
  try ((repeat' split) <;> simp_all)
theorem eqin126 (d : Nat) (x y : TFile) (w : World) : (Op.equalIn (d + 3) 126 (.agg #[S x.path, I x.response.status, I x.response.kind, S x.response.body, I x.response.age, Bo x.response.shares, S x.response.policy]) (.agg #[S y.path, I y.response.status, I y.response.kind, S y.response.body, I y.response.age, Bo y.response.shares, S y.response.policy])).run Try.prog w = .ok (decide (x = y)) w := by
  have hf : Try.prog.fieldsOf 126 = #[⟨ "Path", 9, 0, false, "", "", 0⟩, ⟨ "Response", 51, 1, false, "", "", 16⟩] := by kernel_rfl
  rw [run_equalIn_agg w (d + 2) 126 _ _ (by kernel_rfl) (by kernel_rfl), hf]
  simp [Op.eqFields, go_sem, TFile.ext_iff, eqin51]
  try ((repeat' split) <;> simp_all)
theorem eqt126 : EqT Try.prog 126 (α := TFile) := run_eqt_of (eqin126 9997) (by kernel_rfl)
theorem zt51 : ZT Try.prog 51 [.int .i64 0, .int .i64 0, .string ⟨#[]⟩, .int .i64 0, .bool false, .string ⟨#[]⟩] := ZT.of (z := .agg #[.int .i64 0, .int .i64 0, .string ⟨#[]⟩, .int .i64 0, .bool false, .string ⟨#[]⟩]) (by kernel_rfl) rfl
theorem fa188_0 : FA Try.prog 188 0 0 := FA.of (T := 3) (k := 0) (by kernel_rfl) (by kernel_rfl)
theorem sca3 : Sca Try.prog 3 := Sca.of (by kernel_rfl) (by kernel_rfl)
theorem fa51_0 : FA Try.prog 51 0 0 := FA.of (T := 3) (k := 0) (by kernel_rfl) (by kernel_rfl)
theorem szf3 : (Try.prog.info? 3).map (·.size) = some 1 := by kernel_rfl
theorem fa188_1 : FA Try.prog 188 1 1 := FA.of (T := 3) (k := 0) (by kernel_rfl) (by kernel_rfl)
theorem fa51_1 : FA Try.prog 51 1 1 := FA.of (T := 3) (k := 0) (by kernel_rfl) (by kernel_rfl)
theorem fa51_2 : FA Try.prog 51 2 2 := FA.of (T := 9) (k := 0) (by kernel_rfl) (by kernel_rfl)
theorem szf9 : (Try.prog.info? 9).map (·.size) = some 1 := by kernel_rfl
theorem fa188_3 : FA Try.prog 188 3 3 := FA.of (T := 3) (k := 0) (by kernel_rfl) (by kernel_rfl)
theorem fa51_3 : FA Try.prog 51 3 3 := FA.of (T := 3) (k := 0) (by kernel_rfl) (by kernel_rfl)
theorem fa188_4 : FA Try.prog 188 4 4 := FA.of (T := 4) (k := 0) (by kernel_rfl) (by kernel_rfl)
theorem sca4 : Sca Try.prog 4 := Sca.of (by kernel_rfl) (by kernel_rfl)
theorem fa51_4 : FA Try.prog 51 4 4 := FA.of (T := 4) (k := 0) (by kernel_rfl) (by kernel_rfl)
theorem szf4 : (Try.prog.info? 4).map (·.size) = some 1 := by kernel_rfl
theorem fa51_5 : FA Try.prog 51 5 5 := FA.of (T := 9) (k := 0) (by kernel_rfl) (by kernel_rfl)
theorem agg51 : Agg Try.prog 51 6 := Agg.of (by kernel_rfl) (by kernel_rfl)
theorem szf51 : (Try.prog.info? 51).map (·.size) = some 6 := by kernel_rfl
theorem zt126 : ZT Try.prog 126 [.string ⟨#[]⟩, .int .i64 0, .int .i64 0, .string ⟨#[]⟩, .int .i64 0, .bool false, .string ⟨#[]⟩] := ZT.of (z := .agg #[.string ⟨#[]⟩, .int .i64 0, .int .i64 0, .string ⟨#[]⟩, .int .i64 0, .bool false, .string ⟨#[]⟩]) (by kernel_rfl) rfl
theorem fa126_0 : FA Try.prog 126 0 0 := FA.of (T := 9) (k := 0) (by kernel_rfl) (by kernel_rfl)
theorem fn170 : FN Try.prog 170 := FN.of Try.func170 (by kernel_rfl) (by kernel_rfl)
theorem fa126_1 : FA Try.prog 126 1 1 := FA.of (T := 51) (k := 5) (by kernel_rfl) (by kernel_rfl)
theorem szf126 : (Try.prog.info? 126).map (·.size) = some 7 := by kernel_rfl
theorem elt122 : ElT Try.prog 122 126 (⟨[], ⟨0, 0, [], 0, false, []⟩⟩ : TFile) 80 := ElT.of (zv := .agg #[.string ⟨#[]⟩, .int .i64 0, .int .i64 0, .string ⟨#[]⟩, .int .i64 0, .bool false, .string ⟨#[]⟩]) (by kernel_rfl) (by kernel_rfl) rfl (fun w => own_flat (TFile.zok w))
theorem fn167 : FN Try.prog 167 := FN.of Try.func167 (by kernel_rfl) (by kernel_rfl)
theorem zt124 : ZT Try.prog 124 [.string ⟨#[]⟩, .slice none 0 0] := ZT.of (z := .agg #[.string ⟨#[]⟩, .slice none 0 0]) (by kernel_rfl) rfl
theorem fn129 : FN Try.prog 129 := FN.of Try.func129 (by kernel_rfl) (by kernel_rfl)
theorem szf122 : (Try.prog.info? 122).map (·.size) = some 1 := by kernel_rfl
theorem agg124 : Agg Try.prog 124 2 := Agg.of (by kernel_rfl) (by kernel_rfl)
theorem szf124 : (Try.prog.info? 124).map (·.size) = some 2 := by kernel_rfl
theorem elt35 : ElT Try.prog 35 124 (⟨[], ⟨[], none, 0⟩⟩ : PServer) 40 := ElT.of (zv := .agg #[.string ⟨#[]⟩, .slice none 0 0]) (by kernel_rfl) (by kernel_rfl) rfl (fun w => PServer.zown w)
theorem fn72 : FN Try.prog 72 := FN.of Try.func72 (by kernel_rfl) (by kernel_rfl)
theorem fn75 : FN Try.prog 75 := FN.of Try.func75 (by kernel_rfl) (by kernel_rfl)
theorem fn73 : FN Try.prog 73 := FN.of Try.func73 (by kernel_rfl) (by kernel_rfl)
theorem fn74 : FN Try.prog 74 := FN.of Try.func74 (by kernel_rfl) (by kernel_rfl)
theorem bool4 : Try.prog.underlying 4 = some .bool := by kernel_rfl
theorem fn33 : FN Try.prog 33 := FN.of Try.func33 (by kernel_rfl) (by kernel_rfl)
theorem fn168 : FN Try.prog 168 := FN.of Try.func168 (by kernel_rfl) (by kernel_rfl)
theorem fn130 : FN Try.prog 130 := FN.of Try.func130 (by kernel_rfl) (by kernel_rfl)
theorem fn76 : FN Try.prog 76 := FN.of Try.func76 (by kernel_rfl) (by kernel_rfl)
theorem fn20 : FN Try.prog 20 := FN.of Try.func20 (by kernel_rfl) (by kernel_rfl)
theorem fn22 : FN Try.prog 22 := FN.of Try.func22 (by kernel_rfl) (by kernel_rfl)
theorem fn21 : FN Try.prog 21 := FN.of Try.func21 (by kernel_rfl) (by kernel_rfl)
theorem fn23 : FN Try.prog 23 := FN.of Try.func23 (by kernel_rfl) (by kernel_rfl)
theorem fn24 : FN Try.prog 24 := FN.of Try.func24 (by kernel_rfl) (by kernel_rfl)
theorem slu22 : Try.prog.underlying 22 = some (.slice 9) := by kernel_rfl
theorem slt22 : SlT Try.prog 22 9 1 := ⟨by kernel_rfl, by kernel_rfl⟩
theorem fa24_1 : FA Try.prog 24 1 1 := FA.of (T := 22) (k := 0) (by kernel_rfl) (by kernel_rfl)
theorem sca22 : Sca Try.prog 22 := Sca.of (by kernel_rfl) (by kernel_rfl)
theorem fn62 : FN Try.prog 62 := FN.of Try.func62 (by kernel_rfl) (by kernel_rfl)
theorem fa24_2 : FA Try.prog 24 2 2 := FA.of (T := 22) (k := 0) (by kernel_rfl) (by kernel_rfl)
theorem fa24_3 : FA Try.prog 24 3 3 := FA.of (T := 22) (k := 0) (by kernel_rfl) (by kernel_rfl)
theorem fa24_4 : FA Try.prog 24 4 4 := FA.of (T := 9) (k := 0) (by kernel_rfl) (by kernel_rfl)
theorem elt22 : ElT Try.prog 22 9 ([] : Str) 16 := ElT.of (zv := .string ⟨#[]⟩) (by kernel_rfl) (by kernel_rfl) rfl (fun w => own_flat (Nat.zero_le _))
theorem zt26 : ZT Try.prog 26 [.bool false, .slice none 0 0, .slice none 0 0, .slice none 0 0, .string ⟨#[]⟩] := ZT.of (z := .agg #[.bool false, .slice none 0 0, .slice none 0 0, .slice none 0 0, .string ⟨#[]⟩]) (by kernel_rfl) rfl
theorem fa24_0 : FA Try.prog 24 0 0 := FA.of (T := 4) (k := 0) (by kernel_rfl) (by kernel_rfl)
theorem fa26_0 : FA Try.prog 26 0 0 := FA.of (T := 4) (k := 0) (by kernel_rfl) (by kernel_rfl)
theorem fn65 : FN Try.prog 65 := FN.of Try.func65 (by kernel_rfl) (by kernel_rfl)
theorem fa26_1 : FA Try.prog 26 1 1 := FA.of (T := 22) (k := 0) (by kernel_rfl) (by kernel_rfl)
theorem szf22 : (Try.prog.info? 22).map (·.size) = some 1 := by kernel_rfl
theorem fa26_2 : FA Try.prog 26 2 2 := FA.of (T := 22) (k := 0) (by kernel_rfl) (by kernel_rfl)
theorem fa26_3 : FA Try.prog 26 3 3 := FA.of (T := 22) (k := 0) (by kernel_rfl) (by kernel_rfl)
theorem fa26_4 : FA Try.prog 26 4 4 := FA.of (T := 9) (k := 0) (by kernel_rfl) (by kernel_rfl)
theorem agg26 : Agg Try.prog 26 5 := Agg.of (by kernel_rfl) (by kernel_rfl)
theorem szf26 : (Try.prog.info? 26).map (·.size) = some 5 := by kernel_rfl
theorem fn68 : FN Try.prog 68 := FN.of Try.func68 (by kernel_rfl) (by kernel_rfl)
theorem fa39_0 : FA Try.prog 39 0 0 := FA.of (T := 9) (k := 0) (by kernel_rfl) (by kernel_rfl)
theorem fa39_1 : FA Try.prog 39 1 1 := FA.of (T := 9) (k := 0) (by kernel_rfl) (by kernel_rfl)
theorem fa41_1 : FA Try.prog 41 1 1 := FA.of (T := 39) (k := 1) (by kernel_rfl) (by kernel_rfl)
theorem agg39 : Agg Try.prog 39 2 := Agg.of (by kernel_rfl) (by kernel_rfl)
theorem fn29 : FN Try.prog 29 := FN.of Try.func29 (by kernel_rfl) (by kernel_rfl)
theorem fa41_2 : FA Try.prog 41 2 3 := FA.of (T := 9) (k := 0) (by kernel_rfl) (by kernel_rfl)
theorem fa41_3 : FA Try.prog 41 3 4 := FA.of (T := 9) (k := 0) (by kernel_rfl) (by kernel_rfl)
theorem fn110 : FN Try.prog 110 := FN.of Try.func110 (by kernel_rfl) (by kernel_rfl)
theorem fa44_0 : FA Try.prog 44 0 0 := FA.of (T := 9) (k := 0) (by kernel_rfl) (by kernel_rfl)
theorem fn132 : FN Try.prog 132 := FN.of Try.func132 (by kernel_rfl) (by kernel_rfl)
theorem fa44_1 : FA Try.prog 44 1 1 := FA.of (T := 9) (k := 0) (by kernel_rfl) (by kernel_rfl)
theorem fa46_0 : FA Try.prog 46 0 0 := FA.of (T := 3) (k := 0) (by kernel_rfl) (by kernel_rfl)
theorem fa46_1 : FA Try.prog 46 1 1 := FA.of (T := 44) (k := 1) (by kernel_rfl) (by kernel_rfl)
theorem agg44 : Agg Try.prog 44 2 := Agg.of (by kernel_rfl) (by kernel_rfl)
theorem fn131 : FN Try.prog 131 := FN.of Try.func131 (by kernel_rfl) (by kernel_rfl)
theorem fa46_2 : FA Try.prog 46 2 3 := FA.of (T := 9) (k := 0) (by kernel_rfl) (by kernel_rfl)
theorem fa46_3 : FA Try.prog 46 3 4 := FA.of (T := 9) (k := 0) (by kernel_rfl) (by kernel_rfl)
theorem fn133 : FN Try.prog 133 := FN.of Try.func133 (by kernel_rfl) (by kernel_rfl)
theorem fn126 : FN Try.prog 126 := FN.of Try.func126 (by kernel_rfl) (by kernel_rfl)
theorem agg46 : Agg Try.prog 46 5 := Agg.of (by kernel_rfl) (by kernel_rfl)
theorem fn77 : FN Try.prog 77 := FN.of Try.func77 (by kernel_rfl) (by kernel_rfl)
theorem fn78 : FN Try.prog 78 := FN.of Try.func78 (by kernel_rfl) (by kernel_rfl)
theorem zt44 : ZT Try.prog 44 [.string ⟨#[]⟩, .string ⟨#[]⟩] := ZT.of (z := .agg #[.string ⟨#[]⟩, .string ⟨#[]⟩]) (by kernel_rfl) rfl
theorem szf44 : (Try.prog.info? 44).map (·.size) = some 2 := by kernel_rfl
theorem zt46 : ZT Try.prog 46 [.int .i64 0, .string ⟨#[]⟩, .string ⟨#[]⟩, .string ⟨#[]⟩, .string ⟨#[]⟩] := ZT.of (z := .agg #[.int .i64 0, .string ⟨#[]⟩, .string ⟨#[]⟩, .string ⟨#[]⟩, .string ⟨#[]⟩]) (by kernel_rfl) rfl
theorem fa41_0 : FA Try.prog 41 0 0 := FA.of (T := 3) (k := 0) (by kernel_rfl) (by kernel_rfl)
theorem fn31 : FN Try.prog 31 := FN.of Try.func31 (by kernel_rfl) (by kernel_rfl)
theorem szf46 : (Try.prog.info? 46).map (·.size) = some 5 := by kernel_rfl
theorem fn134 : FN Try.prog 134 := FN.of Try.func134 (by kernel_rfl) (by kernel_rfl)
theorem fn136 : FN Try.prog 136 := FN.of Try.func136 (by kernel_rfl) (by kernel_rfl)
theorem fn135 : FN Try.prog 135 := FN.of Try.func135 (by kernel_rfl) (by kernel_rfl)
theorem fn137 : FN Try.prog 137 := FN.of Try.func137 (by kernel_rfl) (by kernel_rfl)
theorem fn165 : FN Try.prog 165 := FN.of Try.func165 (by kernel_rfl) (by kernel_rfl)
theorem fn127 : FN Try.prog 127 := FN.of Try.func127 (by kernel_rfl) (by kernel_rfl)
theorem fn79 : FN Try.prog 79 := FN.of Try.func79 (by kernel_rfl) (by kernel_rfl)
theorem fn80 : FN Try.prog 80 := FN.of Try.func80 (by kernel_rfl) (by kernel_rfl)
theorem agg24 : Agg Try.prog 24 5 := Agg.of (by kernel_rfl) (by kernel_rfl)
theorem fn13 : FN Try.prog 13 := FN.of Try.func13 (by kernel_rfl) (by kernel_rfl)
theorem agg41 : Agg Try.prog 41 5 := Agg.of (by kernel_rfl) (by kernel_rfl)
theorem fn25 : FN Try.prog 25 := FN.of Try.func25 (by kernel_rfl) (by kernel_rfl)
theorem fn15 : FN Try.prog 15 := FN.of Try.func15 (by kernel_rfl) (by kernel_rfl)
theorem fn27 : FN Try.prog 27 := FN.of Try.func27 (by kernel_rfl) (by kernel_rfl)
theorem fn26 : FN Try.prog 26 := FN.of Try.func26 (by kernel_rfl) (by kernel_rfl)
theorem fn28 : FN Try.prog 28 := FN.of Try.func28 (by kernel_rfl) (by kernel_rfl)
theorem fn17 : FN Try.prog 17 := FN.of Try.func17 (by kernel_rfl) (by kernel_rfl)
theorem bt51 : BT Try.prog 51 [.int .i64 0, .int .i64 0, .string ⟨#[]⟩, .int .i64 0, .bool false, .string ⟨#[]⟩] [(0, 1), (1, 1), (2, 1), (3, 1), (4, 1), (5, 1)] := BT.of (z := .agg #[.int .i64 0, .int .i64 0, .string ⟨#[]⟩, .int .i64 0, .bool false, .string ⟨#[]⟩]) (by kernel_rfl) (by kernel_rfl) rfl (fun w => by kernel_rfl)
theorem fn81 : FN Try.prog 81 := FN.of Try.func81 (by kernel_rfl) (by kernel_rfl)
theorem fn82 : FN Try.prog 82 := FN.of Try.func82 (by kernel_rfl) (by kernel_rfl)
theorem fn83 : FN Try.prog 83 := FN.of Try.func83 (by kernel_rfl) (by kernel_rfl)
theorem fn138 : FN Try.prog 138 := FN.of Try.func138 (by kernel_rfl) (by kernel_rfl)
theorem fn139 : FN Try.prog 139 := FN.of Try.func139 (by kernel_rfl) (by kernel_rfl)
theorem fn140 : FN Try.prog 140 := FN.of Try.func140 (by kernel_rfl) (by kernel_rfl)
theorem fn141 : FN Try.prog 141 := FN.of Try.func141 (by kernel_rfl) (by kernel_rfl)
theorem fn84 : FN Try.prog 84 := FN.of Try.func84 (by kernel_rfl) (by kernel_rfl)
theorem fn85 : FN Try.prog 85 := FN.of Try.func85 (by kernel_rfl) (by kernel_rfl)
theorem fn86 : FN Try.prog 86 := FN.of Try.func86 (by kernel_rfl) (by kernel_rfl)
theorem fn30 : FN Try.prog 30 := FN.of Try.func30 (by kernel_rfl) (by kernel_rfl)
theorem fn32 : FN Try.prog 32 := FN.of Try.func32 (by kernel_rfl) (by kernel_rfl)
theorem fa190_0 : FA Try.prog 190 0 0 := FA.of (T := 9) (k := 0) (by kernel_rfl) (by kernel_rfl)
theorem fa190_1 : FA Try.prog 190 1 1 := FA.of (T := 39) (k := 1) (by kernel_rfl) (by kernel_rfl)
theorem fa190_2 : FA Try.prog 190 2 3 := FA.of (T := 188) (k := 5) (by kernel_rfl) (by kernel_rfl)
theorem slu56 : Try.prog.underlying 56 = some (.slice 190) := by kernel_rfl
theorem slt56 : SlT Try.prog 56 190 10 := ⟨by kernel_rfl, by kernel_rfl⟩
theorem agg190 : Agg Try.prog 190 10 := Agg.of (by kernel_rfl) (by kernel_rfl)
theorem fn142 : FN Try.prog 142 := FN.of Try.func142 (by kernel_rfl) (by kernel_rfl)
theorem fa58_0 : FA Try.prog 58 0 0 := FA.of (T := 56) (k := 0) (by kernel_rfl) (by kernel_rfl)
theorem sca56 : Sca Try.prog 56 := Sca.of (by kernel_rfl) (by kernel_rfl)
theorem fn87 : FN Try.prog 87 := FN.of Try.func87 (by kernel_rfl) (by kernel_rfl)
theorem fa196_0 : FA Try.prog 196 0 0 := FA.of (T := 9) (k := 0) (by kernel_rfl) (by kernel_rfl)
theorem fa196_1 : FA Try.prog 196 1 1 := FA.of (T := 39) (k := 1) (by kernel_rfl) (by kernel_rfl)
theorem slu68 : Try.prog.underlying 68 = some (.slice 196) := by kernel_rfl
theorem slt68 : SlT Try.prog 68 196 4 := ⟨by kernel_rfl, by kernel_rfl⟩
theorem agg196 : Agg Try.prog 196 4 := Agg.of (by kernel_rfl) (by kernel_rfl)
theorem fn146 : FN Try.prog 146 := FN.of Try.func146 (by kernel_rfl) (by kernel_rfl)
theorem fa70_0 : FA Try.prog 70 0 0 := FA.of (T := 32) (k := 0) (by kernel_rfl) (by kernel_rfl)
theorem sca32 : Sca Try.prog 32 := Sca.of (by kernel_rfl) (by kernel_rfl)
theorem fa70_1 : FA Try.prog 70 1 1 := FA.of (T := 58) (k := 0) (by kernel_rfl) (by kernel_rfl)
theorem agg58 : Agg Try.prog 58 1 := Agg.of (by kernel_rfl) (by kernel_rfl)
theorem fn34 : FN Try.prog 34 := FN.of Try.func34 (by kernel_rfl) (by kernel_rfl)
theorem fa70_2 : FA Try.prog 70 2 2 := FA.of (T := 68) (k := 0) (by kernel_rfl) (by kernel_rfl)
theorem sca68 : Sca Try.prog 68 := Sca.of (by kernel_rfl) (by kernel_rfl)
theorem fn95 : FN Try.prog 95 := FN.of Try.func95 (by kernel_rfl) (by kernel_rfl)
theorem fa75_2 : FA Try.prog 75 2 2 := FA.of (T := 73) (k := 0) (by kernel_rfl) (by kernel_rfl)
theorem sca73 : Sca Try.prog 73 := Sca.of (by kernel_rfl) (by kernel_rfl)
theorem slu73 : Try.prog.underlying 73 = some (.slice 147) := by kernel_rfl
theorem slt73 : SlT Try.prog 73 147 4 := ⟨by kernel_rfl, by kernel_rfl⟩
theorem fa147_2 : FA Try.prog 147 2 3 := FA.of (T := 4) (k := 0) (by kernel_rfl) (by kernel_rfl)
theorem zt138 : ZT Try.prog 138 [.string ⟨#[]⟩, .string ⟨#[]⟩, .string ⟨#[]⟩, .int .i64 0, .int .i64 0, .string ⟨#[]⟩, .int .i64 0, .bool false, .string ⟨#[]⟩, .int .i64 0] := ZT.of (z := .agg #[.string ⟨#[]⟩, .string ⟨#[]⟩, .string ⟨#[]⟩, .int .i64 0, .int .i64 0, .string ⟨#[]⟩, .int .i64 0, .bool false, .string ⟨#[]⟩, .int .i64 0]) (by kernel_rfl) rfl
theorem fa138_0 : FA Try.prog 138 0 0 := FA.of (T := 9) (k := 0) (by kernel_rfl) (by kernel_rfl)
theorem fa138_1 : FA Try.prog 138 1 1 := FA.of (T := 44) (k := 1) (by kernel_rfl) (by kernel_rfl)
theorem fa138_2 : FA Try.prog 138 2 3 := FA.of (T := 51) (k := 5) (by kernel_rfl) (by kernel_rfl)
theorem fa190_3 : FA Try.prog 190 3 9 := FA.of (T := 3) (k := 0) (by kernel_rfl) (by kernel_rfl)
theorem fa138_3 : FA Try.prog 138 3 9 := FA.of (T := 3) (k := 0) (by kernel_rfl) (by kernel_rfl)
theorem agg138 : Agg Try.prog 138 10 := Agg.of (by kernel_rfl) (by kernel_rfl)
theorem szf138 : (Try.prog.info? 138).map (·.size) = some 10 := by kernel_rfl
theorem elt60 : ElT Try.prog 60 138 (⟨[], ⟨[], []⟩, ⟨0, 0, [], 0, false, []⟩, 0⟩ : TEntry) 120 := ElT.of (zv := .agg #[.string ⟨#[]⟩, .string ⟨#[]⟩, .string ⟨#[]⟩, .int .i64 0, .int .i64 0, .string ⟨#[]⟩, .int .i64 0, .bool false, .string ⟨#[]⟩, .int .i64 0]) (by kernel_rfl) (by kernel_rfl) rfl (fun w => own_flat (TEntry.zok w))
theorem fn143 : FN Try.prog 143 := FN.of Try.func143 (by kernel_rfl) (by kernel_rfl)
theorem slt60 : SlT Try.prog 60 138 10 := ⟨by kernel_rfl, by kernel_rfl⟩
theorem zt62 : ZT Try.prog 62 [.slice none 0 0] := ZT.of (z := .agg #[.slice none 0 0]) (by kernel_rfl) rfl
theorem fn88 : FN Try.prog 88 := FN.of Try.func88 (by kernel_rfl) (by kernel_rfl)
theorem fa62_0 : FA Try.prog 62 0 0 := FA.of (T := 60) (k := 0) (by kernel_rfl) (by kernel_rfl)
theorem szf60 : (Try.prog.info? 60).map (·.size) = some 1 := by kernel_rfl
theorem agg62 : Agg Try.prog 62 1 := Agg.of (by kernel_rfl) (by kernel_rfl)
theorem szf62 : (Try.prog.info? 62).map (·.size) = some 1 := by kernel_rfl
theorem zt147 : ZT Try.prog 147 [.string ⟨#[]⟩, .string ⟨#[]⟩, .string ⟨#[]⟩, .bool false] := ZT.of (z := .agg #[.string ⟨#[]⟩, .string ⟨#[]⟩, .string ⟨#[]⟩, .bool false]) (by kernel_rfl) rfl
theorem fa147_0 : FA Try.prog 147 0 0 := FA.of (T := 9) (k := 0) (by kernel_rfl) (by kernel_rfl)
theorem fa147_1 : FA Try.prog 147 1 1 := FA.of (T := 44) (k := 1) (by kernel_rfl) (by kernel_rfl)
theorem fa196_2 : FA Try.prog 196 2 3 := FA.of (T := 4) (k := 0) (by kernel_rfl) (by kernel_rfl)
theorem agg147 : Agg Try.prog 147 4 := Agg.of (by kernel_rfl) (by kernel_rfl)
theorem szf147 : (Try.prog.info? 147).map (·.size) = some 4 := by kernel_rfl
theorem elt73 : ElT Try.prog 73 147 (⟨[], ⟨[], []⟩, false⟩ : TSent) 56 := ElT.of (zv := .agg #[.string ⟨#[]⟩, .string ⟨#[]⟩, .string ⟨#[]⟩, .bool false]) (by kernel_rfl) (by kernel_rfl) rfl (fun w => own_flat (TSent.zok w))
theorem fn147 : FN Try.prog 147 := FN.of Try.func147 (by kernel_rfl) (by kernel_rfl)
theorem zt75 : ZT Try.prog 75 [.slice none 0 0, .slice none 0 0, .slice none 0 0, .int .i64 0] := ZT.of (z := .agg #[.slice none 0 0, .slice none 0 0, .slice none 0 0, .int .i64 0]) (by kernel_rfl) rfl
theorem fa75_0 : FA Try.prog 75 0 0 := FA.of (T := 35) (k := 0) (by kernel_rfl) (by kernel_rfl)
theorem szf35 : (Try.prog.info? 35).map (·.size) = some 1 := by kernel_rfl
theorem fn36 : FN Try.prog 36 := FN.of Try.func36 (by kernel_rfl) (by kernel_rfl)
theorem fa75_1 : FA Try.prog 75 1 1 := FA.of (T := 62) (k := 0) (by kernel_rfl) (by kernel_rfl)
theorem fn96 : FN Try.prog 96 := FN.of Try.func96 (by kernel_rfl) (by kernel_rfl)
theorem szf73 : (Try.prog.info? 73).map (·.size) = some 1 := by kernel_rfl
theorem fa70_3 : FA Try.prog 70 3 3 := FA.of (T := 3) (k := 0) (by kernel_rfl) (by kernel_rfl)
theorem fa75_3 : FA Try.prog 75 3 3 := FA.of (T := 3) (k := 0) (by kernel_rfl) (by kernel_rfl)
theorem agg75 : Agg Try.prog 75 4 := Agg.of (by kernel_rfl) (by kernel_rfl)
theorem szf75 : (Try.prog.info? 75).map (·.size) = some 4 := by kernel_rfl
theorem fn97 : FN Try.prog 97 := FN.of Try.func97 (by kernel_rfl) (by kernel_rfl)
theorem fn117 : FN Try.prog 117 := FN.of Try.func117 (by kernel_rfl) (by kernel_rfl)
theorem slu60 : Try.prog.underlying 60 = some (.slice 138) := by kernel_rfl
theorem fn145 : FN Try.prog 145 := FN.of Try.func145 (by kernel_rfl) (by kernel_rfl)
theorem sca60 : Sca Try.prog 60 := Sca.of (by kernel_rfl) (by kernel_rfl)
theorem fn92 : FN Try.prog 92 := FN.of Try.func92 (by kernel_rfl) (by kernel_rfl)
theorem fn101 : FN Try.prog 101 := FN.of Try.func101 (by kernel_rfl) (by kernel_rfl)
theorem sca35 : Sca Try.prog 35 := Sca.of (by kernel_rfl) (by kernel_rfl)
theorem fn38 : FN Try.prog 38 := FN.of Try.func38 (by kernel_rfl) (by kernel_rfl)
theorem fn50 : FN Try.prog 50 := FN.of Try.func50 (by kernel_rfl) (by kernel_rfl)
theorem agg70 : Agg Try.prog 70 4 := Agg.of (by kernel_rfl) (by kernel_rfl)
theorem fn41 : FN Try.prog 41 := FN.of Try.func41 (by kernel_rfl) (by kernel_rfl)
theorem fn43 : FN Try.prog 43 := FN.of Try.func43 (by kernel_rfl) (by kernel_rfl)
theorem fn42 : FN Try.prog 42 := FN.of Try.func42 (by kernel_rfl) (by kernel_rfl)
theorem fn44 : FN Try.prog 44 := FN.of Try.func44 (by kernel_rfl) (by kernel_rfl)
theorem fn45 : FN Try.prog 45 := FN.of Try.func45 (by kernel_rfl) (by kernel_rfl)
theorem eqin44 (d : Nat) (x y : TAddr) (w : World) : (Op.equalIn (d + 2) 44 (.agg #[S x.host, S x.path]) (.agg #[S y.host, S y.path])).run Try.prog w = .ok (decide (x = y)) w := by
  have hf : Try.prog.fieldsOf 44 = #[⟨ "Host", 9, 0, false, "", "", 0⟩, ⟨ "Path", 9, 1, false, "", "", 16⟩] := by kernel_rfl
  rw [run_equalIn_agg w (d + 1) 44 _ _ (by kernel_rfl) (by kernel_rfl), hf]
  simp [Op.eqFields, go_sem, TAddr.ext_iff]
  try ((repeat' split) <;> simp_all)
theorem eqin138 (d : Nat) (x y : TEntry) (w : World) : (Op.equalIn (d + 3) 138 (.agg #[S x.top, S x.to.host, S x.to.path, I x.response.status, I x.response.kind, S x.response.body, I x.response.age, Bo x.response.shares, S x.response.policy, I x.until_]) (.agg #[S y.top, S y.to.host, S y.to.path, I y.response.status, I y.response.kind, S y.response.body, I y.response.age, Bo y.response.shares, S y.response.policy, I y.until_])).run Try.prog w = .ok (decide (x = y)) w := by
  have hf : Try.prog.fieldsOf 138 = #[⟨ "Top", 9, 0, false, "", "", 0⟩, ⟨ "To", 44, 1, false, "", "", 16⟩, ⟨ "Response", 51, 3, false, "", "", 48⟩, ⟨ "Until", 3, 9, false, "", "", 112⟩] := by kernel_rfl
  rw [run_equalIn_agg w (d + 2) 138 _ _ (by kernel_rfl) (by kernel_rfl), hf]
  simp [Op.eqFields, go_sem, TEntry.ext_iff, eqin44, eqin51]
  try ((repeat' split) <;> simp_all)
theorem eqt138 : EqT Try.prog 138 (α := TEntry) := run_eqt_of (eqin138 9997) (by kernel_rfl)
theorem fn98 : FN Try.prog 98 := FN.of Try.func98 (by kernel_rfl) (by kernel_rfl)
theorem eqin147 (d : Nat) (x y : TSent) (w : World) : (Op.equalIn (d + 3) 147 (.agg #[S x.top, S x.to.host, S x.to.path, Bo x.guess]) (.agg #[S y.top, S y.to.host, S y.to.path, Bo y.guess])).run Try.prog w = .ok (decide (x = y)) w := by
  have hf : Try.prog.fieldsOf 147 = #[⟨ "Top", 9, 0, false, "", "", 0⟩, ⟨ "To", 44, 1, false, "", "", 16⟩, ⟨ "Guess", 4, 3, false, "", "", 48⟩] := by kernel_rfl
  rw [run_equalIn_agg w (d + 2) 147 _ _ (by kernel_rfl) (by kernel_rfl), hf]
  simp [Op.eqFields, go_sem, TSent.ext_iff, eqin44]
  try ((repeat' split) <;> simp_all)
theorem eqt147 : EqT Try.prog 147 (α := TSent) := run_eqt_of (eqin147 9997) (by kernel_rfl)
theorem fn148 : FN Try.prog 148 := FN.of Try.func148 (by kernel_rfl) (by kernel_rfl)
theorem fn99 : FN Try.prog 99 := FN.of Try.func99 (by kernel_rfl) (by kernel_rfl)
theorem fn100 : FN Try.prog 100 := FN.of Try.func100 (by kernel_rfl) (by kernel_rfl)
theorem fn46 : FN Try.prog 46 := FN.of Try.func46 (by kernel_rfl) (by kernel_rfl)
theorem fn47 : FN Try.prog 47 := FN.of Try.func47 (by kernel_rfl) (by kernel_rfl)
theorem fa86_0 : FA Try.prog 86 0 0 := FA.of (T := 9) (k := 0) (by kernel_rfl) (by kernel_rfl)
theorem fa245_0 : FA Try.prog 245 0 0 := FA.of (T := 9) (k := 0) (by kernel_rfl) (by kernel_rfl)
theorem fa245_1 : FA Try.prog 245 1 1 := FA.of (T := 9) (k := 0) (by kernel_rfl) (by kernel_rfl)
theorem slu201 : Try.prog.underlying 201 = some (.slice 245) := by kernel_rfl
theorem slt201 : SlT Try.prog 201 245 2 := ⟨by kernel_rfl, by kernel_rfl⟩
theorem agg245 : Agg Try.prog 245 2 := Agg.of (by kernel_rfl) (by kernel_rfl)
theorem fn177 : FN Try.prog 177 := FN.of Try.func177 (by kernel_rfl) (by kernel_rfl)
theorem fa203_1 : FA Try.prog 203 1 1 := FA.of (T := 9) (k := 0) (by kernel_rfl) (by kernel_rfl)
theorem fa203_2 : FA Try.prog 203 2 2 := FA.of (T := 201) (k := 0) (by kernel_rfl) (by kernel_rfl)
theorem sca201 : Sca Try.prog 201 := Sca.of (by kernel_rfl) (by kernel_rfl)
theorem fn171 : FN Try.prog 171 := FN.of Try.func171 (by kernel_rfl) (by kernel_rfl)
theorem fa203_3 : FA Try.prog 203 3 3 := FA.of (T := 9) (k := 0) (by kernel_rfl) (by kernel_rfl)
theorem slu87 : Try.prog.underlying 87 = some (.slice 203) := by kernel_rfl
theorem slt87 : SlT Try.prog 87 203 4 := ⟨by kernel_rfl, by kernel_rfl⟩
theorem agg203 : Agg Try.prog 203 4 := Agg.of (by kernel_rfl) (by kernel_rfl)
theorem fn150 : FN Try.prog 150 := FN.of Try.func150 (by kernel_rfl) (by kernel_rfl)
theorem fa236_0 : FA Try.prog 236 0 0 := FA.of (T := 9) (k := 0) (by kernel_rfl) (by kernel_rfl)
theorem fa236_1 : FA Try.prog 236 1 1 := FA.of (T := 9) (k := 0) (by kernel_rfl) (by kernel_rfl)
theorem fa236_3 : FA Try.prog 236 3 3 := FA.of (T := 201) (k := 0) (by kernel_rfl) (by kernel_rfl)
theorem slu88 : Try.prog.underlying 88 = some (.slice 236) := by kernel_rfl
theorem slt88 : SlT Try.prog 88 236 4 := ⟨by kernel_rfl, by kernel_rfl⟩
theorem agg236 : Agg Try.prog 236 4 := Agg.of (by kernel_rfl) (by kernel_rfl)
theorem fn172 : FN Try.prog 172 := FN.of Try.func172 (by kernel_rfl) (by kernel_rfl)
theorem slu89 : Try.prog.underlying 89 = some (.slice 3) := by kernel_rfl
theorem fa91_0 : FA Try.prog 91 0 0 := FA.of (T := 88) (k := 0) (by kernel_rfl) (by kernel_rfl)
theorem sca88 : Sca Try.prog 88 := Sca.of (by kernel_rfl) (by kernel_rfl)
theorem fn151 : FN Try.prog 151 := FN.of Try.func151 (by kernel_rfl) (by kernel_rfl)
theorem fa91_1 : FA Try.prog 91 1 1 := FA.of (T := 89) (k := 0) (by kernel_rfl) (by kernel_rfl)
theorem sca89 : Sca Try.prog 89 := Sca.of (by kernel_rfl) (by kernel_rfl)
theorem fn152 : FN Try.prog 152 := FN.of Try.func152 (by kernel_rfl) (by kernel_rfl)
theorem fa208_1 : FA Try.prog 208 1 1 := FA.of (T := 39) (k := 1) (by kernel_rfl) (by kernel_rfl)
theorem fa208_2 : FA Try.prog 208 2 3 := FA.of (T := 9) (k := 0) (by kernel_rfl) (by kernel_rfl)
theorem fa208_6 : FA Try.prog 208 6 7 := FA.of (T := 9) (k := 0) (by kernel_rfl) (by kernel_rfl)
theorem slu92 : Try.prog.underlying 92 = some (.slice 208) := by kernel_rfl
theorem slt92 : SlT Try.prog 92 208 8 := ⟨by kernel_rfl, by kernel_rfl⟩
theorem agg208 : Agg Try.prog 208 8 := Agg.of (by kernel_rfl) (by kernel_rfl)
theorem fn153 : FN Try.prog 153 := FN.of Try.func153 (by kernel_rfl) (by kernel_rfl)
theorem fa211_0 : FA Try.prog 211 0 0 := FA.of (T := 39) (k := 1) (by kernel_rfl) (by kernel_rfl)
theorem fa211_3 : FA Try.prog 211 3 4 := FA.of (T := 9) (k := 0) (by kernel_rfl) (by kernel_rfl)
theorem slu93 : Try.prog.underlying 93 = some (.slice 211) := by kernel_rfl
theorem slt93 : SlT Try.prog 93 211 5 := ⟨by kernel_rfl, by kernel_rfl⟩
theorem agg211 : Agg Try.prog 211 5 := Agg.of (by kernel_rfl) (by kernel_rfl)
theorem fn154 : FN Try.prog 154 := FN.of Try.func154 (by kernel_rfl) (by kernel_rfl)
theorem slu94 : Try.prog.underlying 94 = some (.slice 39) := by kernel_rfl
theorem slt94 : SlT Try.prog 94 39 2 := ⟨by kernel_rfl, by kernel_rfl⟩
theorem fa96_0 : FA Try.prog 96 0 0 := FA.of (T := 39) (k := 1) (by kernel_rfl) (by kernel_rfl)
theorem fa96_1 : FA Try.prog 96 1 2 := FA.of (T := 24) (k := 4) (by kernel_rfl) (by kernel_rfl)
theorem fa96_2 : FA Try.prog 96 2 7 := FA.of (T := 86) (k := 0) (by kernel_rfl) (by kernel_rfl)
theorem agg86 : Agg Try.prog 86 1 := Agg.of (by kernel_rfl) (by kernel_rfl)
theorem fn104 : FN Try.prog 104 := FN.of Try.func104 (by kernel_rfl) (by kernel_rfl)
theorem fa96_3 : FA Try.prog 96 3 8 := FA.of (T := 87) (k := 0) (by kernel_rfl) (by kernel_rfl)
theorem sca87 : Sca Try.prog 87 := Sca.of (by kernel_rfl) (by kernel_rfl)
theorem fn105 : FN Try.prog 105 := FN.of Try.func105 (by kernel_rfl) (by kernel_rfl)
theorem fa96_5 : FA Try.prog 96 5 10 := FA.of (T := 91) (k := 1) (by kernel_rfl) (by kernel_rfl)
theorem agg91 : Agg Try.prog 91 2 := Agg.of (by kernel_rfl) (by kernel_rfl)
theorem fn106 : FN Try.prog 106 := FN.of Try.func106 (by kernel_rfl) (by kernel_rfl)
theorem fa96_6 : FA Try.prog 96 6 12 := FA.of (T := 92) (k := 0) (by kernel_rfl) (by kernel_rfl)
theorem sca92 : Sca Try.prog 92 := Sca.of (by kernel_rfl) (by kernel_rfl)
theorem fn107 : FN Try.prog 107 := FN.of Try.func107 (by kernel_rfl) (by kernel_rfl)
theorem fa96_7 : FA Try.prog 96 7 13 := FA.of (T := 93) (k := 0) (by kernel_rfl) (by kernel_rfl)
theorem sca93 : Sca Try.prog 93 := Sca.of (by kernel_rfl) (by kernel_rfl)
theorem fn108 : FN Try.prog 108 := FN.of Try.func108 (by kernel_rfl) (by kernel_rfl)
theorem fa96_8 : FA Try.prog 96 8 14 := FA.of (T := 94) (k := 0) (by kernel_rfl) (by kernel_rfl)
theorem sca94 : Sca Try.prog 94 := Sca.of (by kernel_rfl) (by kernel_rfl)
theorem fn109 : FN Try.prog 109 := FN.of Try.func109 (by kernel_rfl) (by kernel_rfl)
theorem fa96_13 : FA Try.prog 96 13 19 := FA.of (T := 94) (k := 0) (by kernel_rfl) (by kernel_rfl)
theorem fa96_14 : FA Try.prog 96 14 20 := FA.of (T := 22) (k := 0) (by kernel_rfl) (by kernel_rfl)
theorem fa108_7 : FA Try.prog 108 7 13 := FA.of (T := 105) (k := 0) (by kernel_rfl) (by kernel_rfl)
theorem sca105 : Sca Try.prog 105 := Sca.of (by kernel_rfl) (by kernel_rfl)
theorem slu105 : Try.prog.underlying 105 = some (.slice 161) := by kernel_rfl
theorem bt46 : BT Try.prog 46 [.int .i64 0, .string ⟨#[]⟩, .string ⟨#[]⟩, .string ⟨#[]⟩, .string ⟨#[]⟩] [(0, 1), (1, 2), (3, 1), (4, 1)] := BT.of (z := .agg #[.int .i64 0, .string ⟨#[]⟩, .string ⟨#[]⟩, .string ⟨#[]⟩, .string ⟨#[]⟩]) (by kernel_rfl) (by kernel_rfl) rfl (fun w => by kernel_rfl)
theorem slt105 : SlT Try.prog 105 161 5 := ⟨by kernel_rfl, by kernel_rfl⟩
theorem fa161_0 : FA Try.prog 161 0 0 := FA.of (T := 44) (k := 1) (by kernel_rfl) (by kernel_rfl)
theorem fa108_0 : FA Try.prog 108 0 0 := FA.of (T := 44) (k := 1) (by kernel_rfl) (by kernel_rfl)
theorem zt99 : ZT Try.prog 99 [.string ⟨#[]⟩] := ZT.of (z := .agg #[.string ⟨#[]⟩]) (by kernel_rfl) rfl
theorem fa99_0 : FA Try.prog 99 0 0 := FA.of (T := 9) (k := 0) (by kernel_rfl) (by kernel_rfl)
theorem agg99 : Agg Try.prog 99 1 := Agg.of (by kernel_rfl) (by kernel_rfl)
theorem szf99 : (Try.prog.info? 99).map (·.size) = some 1 := by kernel_rfl
theorem zt246 : ZT Try.prog 246 [.string ⟨#[]⟩, .string ⟨#[]⟩] := ZT.of (z := .agg #[.string ⟨#[]⟩, .string ⟨#[]⟩]) (by kernel_rfl) rfl
theorem fa246_0 : FA Try.prog 246 0 0 := FA.of (T := 9) (k := 0) (by kernel_rfl) (by kernel_rfl)
theorem fa246_1 : FA Try.prog 246 1 1 := FA.of (T := 9) (k := 0) (by kernel_rfl) (by kernel_rfl)
theorem agg246 : Agg Try.prog 246 2 := Agg.of (by kernel_rfl) (by kernel_rfl)
theorem szf246 : (Try.prog.info? 246).map (·.size) = some 2 := by kernel_rfl
theorem elt212 : ElT Try.prog 212 246 (⟨[], []⟩ : TAttr) 32 := ElT.of (zv := .agg #[.string ⟨#[]⟩, .string ⟨#[]⟩]) (by kernel_rfl) (by kernel_rfl) rfl (fun w => own_flat (TAttr.zok w))
theorem fn178 : FN Try.prog 178 := FN.of Try.func178 (by kernel_rfl) (by kernel_rfl)
theorem slt212 : SlT Try.prog 212 246 2 := ⟨by kernel_rfl, by kernel_rfl⟩
theorem zt214 : ZT Try.prog 214 [.int .i64 0, .string ⟨#[]⟩, .slice none 0 0, .string ⟨#[]⟩] := ZT.of (z := .agg #[.int .i64 0, .string ⟨#[]⟩, .slice none 0 0, .string ⟨#[]⟩]) (by kernel_rfl) rfl
theorem fa203_0 : FA Try.prog 203 0 0 := FA.of (T := 3) (k := 0) (by kernel_rfl) (by kernel_rfl)
theorem fa214_0 : FA Try.prog 214 0 0 := FA.of (T := 3) (k := 0) (by kernel_rfl) (by kernel_rfl)
theorem fa214_1 : FA Try.prog 214 1 1 := FA.of (T := 9) (k := 0) (by kernel_rfl) (by kernel_rfl)
theorem fn173 : FN Try.prog 173 := FN.of Try.func173 (by kernel_rfl) (by kernel_rfl)
theorem fa214_2 : FA Try.prog 214 2 2 := FA.of (T := 212) (k := 0) (by kernel_rfl) (by kernel_rfl)
theorem szf212 : (Try.prog.info? 212).map (·.size) = some 1 := by kernel_rfl
theorem fa214_3 : FA Try.prog 214 3 3 := FA.of (T := 9) (k := 0) (by kernel_rfl) (by kernel_rfl)
theorem agg214 : Agg Try.prog 214 4 := Agg.of (by kernel_rfl) (by kernel_rfl)
theorem szf214 : (Try.prog.info? 214).map (·.size) = some 4 := by kernel_rfl
theorem elt100 : ElT Try.prog 100 214 (⟨0, [], ⟨[], none, 0⟩, []⟩ : PToken) 64 := ElT.of (zv := .agg #[.int .i64 0, .string ⟨#[]⟩, .slice none 0 0, .string ⟨#[]⟩]) (by kernel_rfl) (by kernel_rfl) rfl (fun w => PToken.zown w)
theorem fn155 : FN Try.prog 155 := FN.of Try.func155 (by kernel_rfl) (by kernel_rfl)
theorem slt100 : SlT Try.prog 100 214 4 := ⟨by kernel_rfl, by kernel_rfl⟩
theorem zt239 : ZT Try.prog 239 [.string ⟨#[]⟩, .string ⟨#[]⟩, .int .i64 0, .slice none 0 0] := ZT.of (z := .agg #[.string ⟨#[]⟩, .string ⟨#[]⟩, .int .i64 0, .slice none 0 0]) (by kernel_rfl) rfl
theorem fa239_0 : FA Try.prog 239 0 0 := FA.of (T := 9) (k := 0) (by kernel_rfl) (by kernel_rfl)
theorem fa239_1 : FA Try.prog 239 1 1 := FA.of (T := 9) (k := 0) (by kernel_rfl) (by kernel_rfl)
theorem fa236_2 : FA Try.prog 236 2 2 := FA.of (T := 3) (k := 0) (by kernel_rfl) (by kernel_rfl)
theorem fa239_2 : FA Try.prog 239 2 2 := FA.of (T := 3) (k := 0) (by kernel_rfl) (by kernel_rfl)
theorem fa239_3 : FA Try.prog 239 3 3 := FA.of (T := 212) (k := 0) (by kernel_rfl) (by kernel_rfl)
theorem agg239 : Agg Try.prog 239 4 := Agg.of (by kernel_rfl) (by kernel_rfl)
theorem szf239 : (Try.prog.info? 239).map (·.size) = some 4 := by kernel_rfl
theorem elt101 : ElT Try.prog 101 239 (⟨[], [], 0, ⟨[], none, 0⟩⟩ : PNode) 64 := ElT.of (zv := .agg #[.string ⟨#[]⟩, .string ⟨#[]⟩, .int .i64 0, .slice none 0 0]) (by kernel_rfl) (by kernel_rfl) rfl (fun w => PNode.zown w)
theorem fn174 : FN Try.prog 174 := FN.of Try.func174 (by kernel_rfl) (by kernel_rfl)
theorem slt101 : SlT Try.prog 101 239 4 := ⟨by kernel_rfl, by kernel_rfl⟩
theorem elt89 : ElT Try.prog 89 3 (0 : Int) 8 := ElT.of (zv := .int .i64 0) (by kernel_rfl) (by kernel_rfl) rfl (fun w => own_flat (⟨by decide, by decide⟩))
theorem slt89 : SlT Try.prog 89 3 1 := ⟨by kernel_rfl, by kernel_rfl⟩
theorem zt103 : ZT Try.prog 103 [.slice none 0 0, .slice none 0 0] := ZT.of (z := .agg #[.slice none 0 0, .slice none 0 0]) (by kernel_rfl) rfl
theorem fn156 : FN Try.prog 156 := FN.of Try.func156 (by kernel_rfl) (by kernel_rfl)
theorem fa103_0 : FA Try.prog 103 0 0 := FA.of (T := 101) (k := 0) (by kernel_rfl) (by kernel_rfl)
theorem szf101 : (Try.prog.info? 101).map (·.size) = some 1 := by kernel_rfl
theorem fn157 : FN Try.prog 157 := FN.of Try.func157 (by kernel_rfl) (by kernel_rfl)
theorem fa103_1 : FA Try.prog 103 1 1 := FA.of (T := 89) (k := 0) (by kernel_rfl) (by kernel_rfl)
theorem szf89 : (Try.prog.info? 89).map (·.size) = some 1 := by kernel_rfl
theorem agg103 : Agg Try.prog 103 2 := Agg.of (by kernel_rfl) (by kernel_rfl)
theorem szf103 : (Try.prog.info? 103).map (·.size) = some 2 := by kernel_rfl
theorem zt176 : ZT Try.prog 176 [.int .i64 0, .string ⟨#[]⟩, .string ⟨#[]⟩, .string ⟨#[]⟩, .int .i64 0, .bool false, .int .i64 0, .string ⟨#[]⟩] := ZT.of (z := .agg #[.int .i64 0, .string ⟨#[]⟩, .string ⟨#[]⟩, .string ⟨#[]⟩, .int .i64 0, .bool false, .int .i64 0, .string ⟨#[]⟩]) (by kernel_rfl) rfl
theorem fa208_0 : FA Try.prog 208 0 0 := FA.of (T := 3) (k := 0) (by kernel_rfl) (by kernel_rfl)
theorem fa176_0 : FA Try.prog 176 0 0 := FA.of (T := 3) (k := 0) (by kernel_rfl) (by kernel_rfl)
theorem fa176_1 : FA Try.prog 176 1 1 := FA.of (T := 44) (k := 1) (by kernel_rfl) (by kernel_rfl)
theorem fa176_2 : FA Try.prog 176 2 3 := FA.of (T := 9) (k := 0) (by kernel_rfl) (by kernel_rfl)
theorem fa208_3 : FA Try.prog 208 3 4 := FA.of (T := 3) (k := 0) (by kernel_rfl) (by kernel_rfl)
theorem fa176_3 : FA Try.prog 176 3 4 := FA.of (T := 3) (k := 0) (by kernel_rfl) (by kernel_rfl)
theorem fa208_4 : FA Try.prog 208 4 5 := FA.of (T := 4) (k := 0) (by kernel_rfl) (by kernel_rfl)
theorem fa176_4 : FA Try.prog 176 4 5 := FA.of (T := 4) (k := 0) (by kernel_rfl) (by kernel_rfl)
theorem fa208_5 : FA Try.prog 208 5 6 := FA.of (T := 3) (k := 0) (by kernel_rfl) (by kernel_rfl)
theorem fa176_5 : FA Try.prog 176 5 6 := FA.of (T := 3) (k := 0) (by kernel_rfl) (by kernel_rfl)
theorem fa176_6 : FA Try.prog 176 6 7 := FA.of (T := 9) (k := 0) (by kernel_rfl) (by kernel_rfl)
theorem agg176 : Agg Try.prog 176 8 := Agg.of (by kernel_rfl) (by kernel_rfl)
theorem szf176 : (Try.prog.info? 176).map (·.size) = some 8 := by kernel_rfl
theorem elt104 : ElT Try.prog 104 176 (⟨0, ⟨[], []⟩, [], 0, false, 0, []⟩ : TSlot) 96 := ElT.of (zv := .agg #[.int .i64 0, .string ⟨#[]⟩, .string ⟨#[]⟩, .string ⟨#[]⟩, .int .i64 0, .bool false, .int .i64 0, .string ⟨#[]⟩]) (by kernel_rfl) (by kernel_rfl) rfl (fun w => own_flat (TSlot.zok w))
theorem fn158 : FN Try.prog 158 := FN.of Try.func158 (by kernel_rfl) (by kernel_rfl)
theorem slt104 : SlT Try.prog 104 176 8 := ⟨by kernel_rfl, by kernel_rfl⟩
theorem zt161 : ZT Try.prog 161 [.string ⟨#[]⟩, .string ⟨#[]⟩, .bool false, .int .i64 0, .string ⟨#[]⟩] := ZT.of (z := .agg #[.string ⟨#[]⟩, .string ⟨#[]⟩, .bool false, .int .i64 0, .string ⟨#[]⟩]) (by kernel_rfl) rfl
theorem fa211_1 : FA Try.prog 211 1 2 := FA.of (T := 4) (k := 0) (by kernel_rfl) (by kernel_rfl)
theorem fa161_1 : FA Try.prog 161 1 2 := FA.of (T := 4) (k := 0) (by kernel_rfl) (by kernel_rfl)
theorem fa211_2 : FA Try.prog 211 2 3 := FA.of (T := 3) (k := 0) (by kernel_rfl) (by kernel_rfl)
theorem fa161_2 : FA Try.prog 161 2 3 := FA.of (T := 3) (k := 0) (by kernel_rfl) (by kernel_rfl)
theorem fa161_3 : FA Try.prog 161 3 4 := FA.of (T := 9) (k := 0) (by kernel_rfl) (by kernel_rfl)
theorem agg161 : Agg Try.prog 161 5 := Agg.of (by kernel_rfl) (by kernel_rfl)
theorem szf161 : (Try.prog.info? 161).map (·.size) = some 5 := by kernel_rfl
theorem elt105 : ElT Try.prog 105 161 (⟨⟨[], []⟩, false, 0, []⟩ : TModule) 64 := ElT.of (zv := .agg #[.string ⟨#[]⟩, .string ⟨#[]⟩, .bool false, .int .i64 0, .string ⟨#[]⟩]) (by kernel_rfl) (by kernel_rfl) rfl (fun w => own_flat (TModule.zok w))
theorem fn159 : FN Try.prog 159 := FN.of Try.func159 (by kernel_rfl) (by kernel_rfl)
theorem elt106 : ElT Try.prog 106 44 (⟨[], []⟩ : TAddr) 32 := ElT.of (zv := .agg #[.string ⟨#[]⟩, .string ⟨#[]⟩]) (by kernel_rfl) (by kernel_rfl) rfl (fun w => own_flat (TAddr.zok w))
theorem slt106 : SlT Try.prog 106 44 2 := ⟨by kernel_rfl, by kernel_rfl⟩
theorem zt108 : ZT Try.prog 108 [.string ⟨#[]⟩, .string ⟨#[]⟩, .bool false, .slice none 0 0, .slice none 0 0, .slice none 0 0, .string ⟨#[]⟩, .string ⟨#[]⟩, .slice none 0 0, .bool false, .slice none 0 0, .slice none 0 0, .slice none 0 0, .slice none 0 0, .slice none 0 0, .int .i64 0, .int .i64 0, .int .i64 0, .int .i64 0, .slice none 0 0, .slice none 0 0, .bool false] := ZT.of (z := .agg #[.string ⟨#[]⟩, .string ⟨#[]⟩, .bool false, .slice none 0 0, .slice none 0 0, .slice none 0 0, .string ⟨#[]⟩, .string ⟨#[]⟩, .slice none 0 0, .bool false, .slice none 0 0, .slice none 0 0, .slice none 0 0, .slice none 0 0, .slice none 0 0, .int .i64 0, .int .i64 0, .int .i64 0, .int .i64 0, .slice none 0 0, .slice none 0 0, .bool false]) (by kernel_rfl) rfl
theorem fa108_1 : FA Try.prog 108 1 2 := FA.of (T := 26) (k := 4) (by kernel_rfl) (by kernel_rfl)
theorem fn111 : FN Try.prog 111 := FN.of Try.func111 (by kernel_rfl) (by kernel_rfl)
theorem fa108_2 : FA Try.prog 108 2 7 := FA.of (T := 99) (k := 0) (by kernel_rfl) (by kernel_rfl)
theorem fn112 : FN Try.prog 112 := FN.of Try.func112 (by kernel_rfl) (by kernel_rfl)
theorem fa108_3 : FA Try.prog 108 3 8 := FA.of (T := 100) (k := 0) (by kernel_rfl) (by kernel_rfl)
theorem szf100 : (Try.prog.info? 100).map (·.size) = some 1 := by kernel_rfl
theorem fa96_4 : FA Try.prog 96 4 9 := FA.of (T := 4) (k := 0) (by kernel_rfl) (by kernel_rfl)
theorem fa108_4 : FA Try.prog 108 4 9 := FA.of (T := 4) (k := 0) (by kernel_rfl) (by kernel_rfl)
theorem fn113 : FN Try.prog 113 := FN.of Try.func113 (by kernel_rfl) (by kernel_rfl)
theorem fa108_5 : FA Try.prog 108 5 10 := FA.of (T := 103) (k := 1) (by kernel_rfl) (by kernel_rfl)
theorem fn114 : FN Try.prog 114 := FN.of Try.func114 (by kernel_rfl) (by kernel_rfl)
theorem fa108_6 : FA Try.prog 108 6 12 := FA.of (T := 104) (k := 0) (by kernel_rfl) (by kernel_rfl)
theorem szf104 : (Try.prog.info? 104).map (·.size) = some 1 := by kernel_rfl
theorem fn115 : FN Try.prog 115 := FN.of Try.func115 (by kernel_rfl) (by kernel_rfl)
theorem szf105 : (Try.prog.info? 105).map (·.size) = some 1 := by kernel_rfl
theorem fn116 : FN Try.prog 116 := FN.of Try.func116 (by kernel_rfl) (by kernel_rfl)
theorem fa108_8 : FA Try.prog 108 8 14 := FA.of (T := 106) (k := 0) (by kernel_rfl) (by kernel_rfl)
theorem szf106 : (Try.prog.info? 106).map (·.size) = some 1 := by kernel_rfl
theorem fa96_9 : FA Try.prog 96 9 15 := FA.of (T := 3) (k := 0) (by kernel_rfl) (by kernel_rfl)
theorem fa108_9 : FA Try.prog 108 9 15 := FA.of (T := 3) (k := 0) (by kernel_rfl) (by kernel_rfl)
theorem fa96_10 : FA Try.prog 96 10 16 := FA.of (T := 3) (k := 0) (by kernel_rfl) (by kernel_rfl)
theorem fa108_10 : FA Try.prog 108 10 16 := FA.of (T := 3) (k := 0) (by kernel_rfl) (by kernel_rfl)
theorem fa96_11 : FA Try.prog 96 11 17 := FA.of (T := 3) (k := 0) (by kernel_rfl) (by kernel_rfl)
theorem fa108_11 : FA Try.prog 108 11 17 := FA.of (T := 3) (k := 0) (by kernel_rfl) (by kernel_rfl)
theorem fa96_12 : FA Try.prog 96 12 18 := FA.of (T := 3) (k := 0) (by kernel_rfl) (by kernel_rfl)
theorem fa108_12 : FA Try.prog 108 12 18 := FA.of (T := 3) (k := 0) (by kernel_rfl) (by kernel_rfl)
theorem fa108_13 : FA Try.prog 108 13 19 := FA.of (T := 106) (k := 0) (by kernel_rfl) (by kernel_rfl)
theorem fa108_14 : FA Try.prog 108 14 20 := FA.of (T := 22) (k := 0) (by kernel_rfl) (by kernel_rfl)
theorem fa96_15 : FA Try.prog 96 15 21 := FA.of (T := 4) (k := 0) (by kernel_rfl) (by kernel_rfl)
theorem fa108_15 : FA Try.prog 108 15 21 := FA.of (T := 4) (k := 0) (by kernel_rfl) (by kernel_rfl)
theorem agg108 : Agg Try.prog 108 22 := Agg.of (by kernel_rfl) (by kernel_rfl)
theorem szf108 : (Try.prog.info? 108).map (·.size) = some 22 := by kernel_rfl
theorem slu212 : Try.prog.underlying 212 = some (.slice 246) := by kernel_rfl
theorem fn179 : FN Try.prog 179 := FN.of Try.func179 (by kernel_rfl) (by kernel_rfl)
theorem sca212 : Sca Try.prog 212 := Sca.of (by kernel_rfl) (by kernel_rfl)
theorem fn175 : FN Try.prog 175 := FN.of Try.func175 (by kernel_rfl) (by kernel_rfl)
theorem slu100 : Try.prog.underlying 100 = some (.slice 214) := by kernel_rfl
theorem fn160 : FN Try.prog 160 := FN.of Try.func160 (by kernel_rfl) (by kernel_rfl)
theorem slu101 : Try.prog.underlying 101 = some (.slice 239) := by kernel_rfl
theorem fn176 : FN Try.prog 176 := FN.of Try.func176 (by kernel_rfl) (by kernel_rfl)
theorem sca101 : Sca Try.prog 101 := Sca.of (by kernel_rfl) (by kernel_rfl)
theorem fn161 : FN Try.prog 161 := FN.of Try.func161 (by kernel_rfl) (by kernel_rfl)
theorem fn162 : FN Try.prog 162 := FN.of Try.func162 (by kernel_rfl) (by kernel_rfl)
theorem slu104 : Try.prog.underlying 104 = some (.slice 176) := by kernel_rfl
theorem fn163 : FN Try.prog 163 := FN.of Try.func163 (by kernel_rfl) (by kernel_rfl)
theorem fn164 : FN Try.prog 164 := FN.of Try.func164 (by kernel_rfl) (by kernel_rfl)
theorem slu106 : Try.prog.underlying 106 = some (.slice 44) := by kernel_rfl
theorem fn118 : FN Try.prog 118 := FN.of Try.func118 (by kernel_rfl) (by kernel_rfl)
theorem sca100 : Sca Try.prog 100 := Sca.of (by kernel_rfl) (by kernel_rfl)
theorem fn119 : FN Try.prog 119 := FN.of Try.func119 (by kernel_rfl) (by kernel_rfl)
theorem fn120 : FN Try.prog 120 := FN.of Try.func120 (by kernel_rfl) (by kernel_rfl)
theorem sca104 : Sca Try.prog 104 := Sca.of (by kernel_rfl) (by kernel_rfl)
theorem fn121 : FN Try.prog 121 := FN.of Try.func121 (by kernel_rfl) (by kernel_rfl)
theorem fn122 : FN Try.prog 122 := FN.of Try.func122 (by kernel_rfl) (by kernel_rfl)
theorem sca106 : Sca Try.prog 106 := Sca.of (by kernel_rfl) (by kernel_rfl)
theorem fn123 : FN Try.prog 123 := FN.of Try.func123 (by kernel_rfl) (by kernel_rfl)
theorem agg96 : Agg Try.prog 96 22 := Agg.of (by kernel_rfl) (by kernel_rfl)
theorem fn54 : FN Try.prog 54 := FN.of Try.func54 (by kernel_rfl) (by kernel_rfl)
theorem fn56 : FN Try.prog 56 := FN.of Try.func56 (by kernel_rfl) (by kernel_rfl)
theorem fn55 : FN Try.prog 55 := FN.of Try.func55 (by kernel_rfl) (by kernel_rfl)
theorem fn57 : FN Try.prog 57 := FN.of Try.func57 (by kernel_rfl) (by kernel_rfl)
theorem fn58 : FN Try.prog 58 := FN.of Try.func58 (by kernel_rfl) (by kernel_rfl)
theorem fn59 : FN Try.prog 59 := FN.of Try.func59 (by kernel_rfl) (by kernel_rfl)
theorem fn124 : FN Try.prog 124 := FN.of Try.func124 (by kernel_rfl) (by kernel_rfl)
theorem fn125 : FN Try.prog 125 := FN.of Try.func125 (by kernel_rfl) (by kernel_rfl)
theorem fn60 : FN Try.prog 60 := FN.of Try.func60 (by kernel_rfl) (by kernel_rfl)
theorem fn61 : FN Try.prog 61 := FN.of Try.func61 (by kernel_rfl) (by kernel_rfl)
theorem sll22 : SlLit Try.prog 22 9 1 [.string ⟨#[]⟩] := SlLit.of (zv := .string ⟨#[]⟩) (by kernel_rfl) (by kernel_rfl) (by kernel_rfl) rfl
theorem bt26 : BT Try.prog 26 [.bool false, .slice none 0 0, .slice none 0 0, .slice none 0 0, .string ⟨#[]⟩] [(0, 1), (1, 1), (2, 1), (3, 1), (4, 1)] := BT.of (z := .agg #[.bool false, .slice none 0 0, .slice none 0 0, .slice none 0 0, .string ⟨#[]⟩]) (by kernel_rfl) (by kernel_rfl) rfl (fun w => by kernel_rfl)
theorem fn63 : FN Try.prog 63 := FN.of Try.func63 (by kernel_rfl) (by kernel_rfl)
theorem fn64 : FN Try.prog 64 := FN.of Try.func64 (by kernel_rfl) (by kernel_rfl)
theorem fn66 : FN Try.prog 66 := FN.of Try.func66 (by kernel_rfl) (by kernel_rfl)
theorem fn67 : FN Try.prog 67 := FN.of Try.func67 (by kernel_rfl) (by kernel_rfl)
theorem u8t5 : Try.prog.underlying 5 = some (.int .u8) := by kernel_rfl
theorem sll199 : SlLit Try.prog 199 5 1 [.int .u8 0] := SlLit.of (zv := .int .u8 0) (by kernel_rfl) (by kernel_rfl) (by kernel_rfl) rfl
theorem slu199 : Try.prog.underlying 199 = some (.slice 5) := by kernel_rfl
theorem fn103 : FN Try.prog 103 := FN.of Try.func103 (by kernel_rfl) (by kernel_rfl)
theorem fn69 : FN Try.prog 69 := FN.of Try.func69 (by kernel_rfl) (by kernel_rfl)
theorem fn70 : FN Try.prog 70 := FN.of Try.func70 (by kernel_rfl) (by kernel_rfl)
theorem fn14 : FN Try.prog 14 := FN.of Try.func14 (by kernel_rfl) (by kernel_rfl)
theorem fn16 : FN Try.prog 16 := FN.of Try.func16 (by kernel_rfl) (by kernel_rfl)
theorem fn18 : FN Try.prog 18 := FN.of Try.func18 (by kernel_rfl) (by kernel_rfl)
theorem fn19 : FN Try.prog 19 := FN.of Try.func19 (by kernel_rfl) (by kernel_rfl)

end Go.Sw
