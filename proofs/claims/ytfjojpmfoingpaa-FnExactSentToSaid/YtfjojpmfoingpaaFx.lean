/- Facts on the types and functions of this translation, each closed. No conditions. -/
import Derived.Test.YtfjojpmfoingpaaRows
import Derived.Test.YtfjojpmfoingpaaLibH
import Derived.WalkSpells
namespace Go.Sw
open Go Go.RowKit Go.Proofs

theorem fa188_2 : FA Try.prog 188 2 2 := FA.of (T := 9) (k := 0) (by kernel_rfl) (by kernel_rfl)
theorem sca9 : Sca Try.prog 9 := Sca.of (by kernel_rfl) (by kernel_rfl)
theorem str9 : Try.prog.underlying 9 = some .string := by kernel_rfl
theorem fa188_5 : FA Try.prog 188 5 5 := FA.of (T := 9) (k := 0) (by kernel_rfl) (by kernel_rfl)
theorem fa228_0 : FA Try.prog 228 0 0 := FA.of (T := 9) (k := 0) (by kernel_rfl) (by kernel_rfl)
theorem fa228_1 : FA Try.prog 228 1 1 := FA.of (T := 188) (k := 5) (by kernel_rfl) (by kernel_rfl)
theorem agg188 : Agg Try.prog 188 6 := Agg.of (by kernel_rfl) (by kernel_rfl)
theorem fn169 : FN Try.prog 169 := FN.of Try.func169 (by kernel_rfl) (by kernel_rfl)
theorem slu119 : Try.prog.underlying 119 = some (.slice 228) := by kernel_rfl
theorem slt119 : SlT Try.prog 119 228 7 := ⟨by kernel_rfl, by kernel_rfl⟩
theorem agg228 : Agg Try.prog 228 7 := Agg.of (by kernel_rfl) (by kernel_rfl)
theorem fn166 : FN Try.prog 166 := FN.of Try.func166 (by kernel_rfl) (by kernel_rfl)
theorem fa121_0 : FA Try.prog 121 0 0 := FA.of (T := 9) (k := 0) (by kernel_rfl) (by kernel_rfl)
theorem fa121_1 : FA Try.prog 121 1 1 := FA.of (T := 119) (k := 0) (by kernel_rfl) (by kernel_rfl)
theorem sca119 : Sca Try.prog 119 := Sca.of (by kernel_rfl) (by kernel_rfl)
theorem fn128 : FN Try.prog 128 := FN.of Try.func128 (by kernel_rfl) (by kernel_rfl)
theorem slu32 : Try.prog.underlying 32 = some (.slice 121) := by kernel_rfl
theorem slt32 : SlT Try.prog 32 121 2 := ⟨by kernel_rfl, by kernel_rfl⟩
theorem agg121 : Agg Try.prog 121 2 := Agg.of (by kernel_rfl) (by kernel_rfl)
theorem fn71 : FN Try.prog 71 := FN.of Try.func71 (by kernel_rfl) (by kernel_rfl)
theorem fa39_0 : FA Try.prog 39 0 0 := FA.of (T := 9) (k := 0) (by kernel_rfl) (by kernel_rfl)
theorem fa39_1 : FA Try.prog 39 1 1 := FA.of (T := 9) (k := 0) (by kernel_rfl) (by kernel_rfl)
theorem fa190_0 : FA Try.prog 190 0 0 := FA.of (T := 9) (k := 0) (by kernel_rfl) (by kernel_rfl)
theorem fa190_1 : FA Try.prog 190 1 1 := FA.of (T := 39) (k := 1) (by kernel_rfl) (by kernel_rfl)
theorem agg39 : Agg Try.prog 39 2 := Agg.of (by kernel_rfl) (by kernel_rfl)
theorem fn29 : FN Try.prog 29 := FN.of Try.func29 (by kernel_rfl) (by kernel_rfl)
theorem fa190_2 : FA Try.prog 190 2 3 := FA.of (T := 188) (k := 5) (by kernel_rfl) (by kernel_rfl)
theorem slu56 : Try.prog.underlying 56 = some (.slice 190) := by kernel_rfl
theorem slt56 : SlT Try.prog 56 190 10 := ⟨by kernel_rfl, by kernel_rfl⟩
theorem agg190 : Agg Try.prog 190 10 := Agg.of (by kernel_rfl) (by kernel_rfl)
theorem fn142 : FN Try.prog 142 := FN.of Try.func142 (by kernel_rfl) (by kernel_rfl)
theorem fa58_0 : FA Try.prog 58 0 0 := FA.of (T := 56) (k := 0) (by kernel_rfl) (by kernel_rfl)
theorem sca56 : Sca Try.prog 56 := Sca.of (by kernel_rfl) (by kernel_rfl)
theorem fn87 : FN Try.prog 87 := FN.of Try.func87 (by kernel_rfl) (by kernel_rfl)
theorem fa196_0 : FA Try.prog 196 0 0 := FA.of (T := 9) (k := 0) (by kernel_rfl) (by kernel_rfl)
theorem fa196_1 : FA Try.prog 196 1 1 := FA.of (T := 39) (k := 1) (by kernel_rfl) (by kernel_rfl)
theorem slu68 : Try.prog.underlying 68 = some (.slice 196) := by kernel_rfl
theorem slt68 : SlT Try.prog 68 196 4 := ⟨by kernel_rfl, by kernel_rfl⟩
theorem agg196 : Agg Try.prog 196 4 := Agg.of (by kernel_rfl) (by kernel_rfl)
theorem fn146 : FN Try.prog 146 := FN.of Try.func146 (by kernel_rfl) (by kernel_rfl)
theorem fa70_0 : FA Try.prog 70 0 0 := FA.of (T := 32) (k := 0) (by kernel_rfl) (by kernel_rfl)
theorem sca32 : Sca Try.prog 32 := Sca.of (by kernel_rfl) (by kernel_rfl)
theorem fn20 : FN Try.prog 20 := FN.of Try.func20 (by kernel_rfl) (by kernel_rfl)
theorem fa70_1 : FA Try.prog 70 1 1 := FA.of (T := 58) (k := 0) (by kernel_rfl) (by kernel_rfl)
theorem agg58 : Agg Try.prog 58 1 := Agg.of (by kernel_rfl) (by kernel_rfl)
theorem fn34 : FN Try.prog 34 := FN.of Try.func34 (by kernel_rfl) (by kernel_rfl)
theorem fa70_2 : FA Try.prog 70 2 2 := FA.of (T := 68) (k := 0) (by kernel_rfl) (by kernel_rfl)
theorem sca68 : Sca Try.prog 68 := Sca.of (by kernel_rfl) (by kernel_rfl)
theorem fn95 : FN Try.prog 95 := FN.of Try.func95 (by kernel_rfl) (by kernel_rfl)
theorem zt51 : ZT Try.prog 51 [.int .i64 0, .int .i64 0, .string ⟨#[]⟩, .int .i64 0, .bool false, .string ⟨#[]⟩] := ZT.of (z := .agg #[.int .i64 0, .int .i64 0, .string ⟨#[]⟩, .int .i64 0, .bool false, .string ⟨#[]⟩]) (by kernel_rfl) rfl
theorem fa188_0 : FA Try.prog 188 0 0 := FA.of (T := 3) (k := 0) (by kernel_rfl) (by kernel_rfl)
theorem sca3 : Sca Try.prog 3 := Sca.of (by kernel_rfl) (by kernel_rfl)
theorem fa51_0 : FA Try.prog 51 0 0 := FA.of (T := 3) (k := 0) (by kernel_rfl) (by kernel_rfl)
theorem szf3 : (Try.prog.info? 3).map (·.size) = some 1 := by kernel_rfl
theorem fa188_1 : FA Try.prog 188 1 1 := FA.of (T := 3) (k := 0) (by kernel_rfl) (by kernel_rfl)
theorem fa51_1 : FA Try.prog 51 1 1 := FA.of (T := 3) (k := 0) (by kernel_rfl) (by kernel_rfl)
theorem fa51_2 : FA Try.prog 51 2 2 := FA.of (T := 9) (k := 0) (by kernel_rfl) (by kernel_rfl)
theorem szf9 : (Try.prog.info? 9).map (·.size) = some 1 := by kernel_rfl
theorem fa188_3 : FA Try.prog 188 3 3 := FA.of (T := 3) (k := 0) (by kernel_rfl) (by kernel_rfl)
theorem fa51_3 : FA Try.prog 51 3 3 := FA.of (T := 3) (k := 0) (by kernel_rfl) (by kernel_rfl)
theorem fa188_4 : FA Try.prog 188 4 4 := FA.of (T := 4) (k := 0) (by kernel_rfl) (by kernel_rfl)
theorem sca4 : Sca Try.prog 4 := Sca.of (by kernel_rfl) (by kernel_rfl)
theorem fa51_4 : FA Try.prog 51 4 4 := FA.of (T := 4) (k := 0) (by kernel_rfl) (by kernel_rfl)
theorem szf4 : (Try.prog.info? 4).map (·.size) = some 1 := by kernel_rfl
theorem fa51_5 : FA Try.prog 51 5 5 := FA.of (T := 9) (k := 0) (by kernel_rfl) (by kernel_rfl)
theorem agg51 : Agg Try.prog 51 6 := Agg.of (by kernel_rfl) (by kernel_rfl)
theorem szf51 : (Try.prog.info? 51).map (·.size) = some 6 := by kernel_rfl
theorem zt126 : ZT Try.prog 126 [.string ⟨#[]⟩, .int .i64 0, .int .i64 0, .string ⟨#[]⟩, .int .i64 0, .bool false, .string ⟨#[]⟩] := ZT.of (z := .agg #[.string ⟨#[]⟩, .int .i64 0, .int .i64 0, .string ⟨#[]⟩, .int .i64 0, .bool false, .string ⟨#[]⟩]) (by kernel_rfl) rfl
theorem fa126_0 : FA Try.prog 126 0 0 := FA.of (T := 9) (k := 0) (by kernel_rfl) (by kernel_rfl)
theorem fn170 : FN Try.prog 170 := FN.of Try.func170 (by kernel_rfl) (by kernel_rfl)
theorem fa126_1 : FA Try.prog 126 1 1 := FA.of (T := 51) (k := 5) (by kernel_rfl) (by kernel_rfl)
theorem agg126 : Agg Try.prog 126 7 := Agg.of (by kernel_rfl) (by kernel_rfl)
theorem szf126 : (Try.prog.info? 126).map (·.size) = some 7 := by kernel_rfl
theorem elt122 : ElT Try.prog 122 126 (⟨[], ⟨0, 0, [], 0, false, []⟩⟩ : TFile) 80 := ElT.of (zv := .agg #[.string ⟨#[]⟩, .int .i64 0, .int .i64 0, .string ⟨#[]⟩, .int .i64 0, .bool false, .string ⟨#[]⟩]) (by kernel_rfl) (by kernel_rfl) rfl (fun w => own_flat (TFile.zok w))
theorem fn167 : FN Try.prog 167 := FN.of Try.func167 (by kernel_rfl) (by kernel_rfl)
theorem slt122 : SlT Try.prog 122 126 7 := ⟨by kernel_rfl, by kernel_rfl⟩
theorem zt124 : ZT Try.prog 124 [.string ⟨#[]⟩, .slice none 0 0] := ZT.of (z := .agg #[.string ⟨#[]⟩, .slice none 0 0]) (by kernel_rfl) rfl
theorem fa124_0 : FA Try.prog 124 0 0 := FA.of (T := 9) (k := 0) (by kernel_rfl) (by kernel_rfl)
theorem fn129 : FN Try.prog 129 := FN.of Try.func129 (by kernel_rfl) (by kernel_rfl)
theorem fa124_1 : FA Try.prog 124 1 1 := FA.of (T := 122) (k := 0) (by kernel_rfl) (by kernel_rfl)
theorem szf122 : (Try.prog.info? 122).map (·.size) = some 1 := by kernel_rfl
theorem agg124 : Agg Try.prog 124 2 := Agg.of (by kernel_rfl) (by kernel_rfl)
theorem szf124 : (Try.prog.info? 124).map (·.size) = some 2 := by kernel_rfl
theorem elt35 : ElT Try.prog 35 124 (⟨[], ⟨[], none, 0⟩⟩ : PServer) 40 := ElT.of (zv := .agg #[.string ⟨#[]⟩, .slice none 0 0]) (by kernel_rfl) (by kernel_rfl) rfl (fun w => PServer.zown w)
theorem fn72 : FN Try.prog 72 := FN.of Try.func72 (by kernel_rfl) (by kernel_rfl)
theorem slt35 : SlT Try.prog 35 124 2 := ⟨by kernel_rfl, by kernel_rfl⟩
theorem zt44 : ZT Try.prog 44 [.string ⟨#[]⟩, .string ⟨#[]⟩] := ZT.of (z := .agg #[.string ⟨#[]⟩, .string ⟨#[]⟩]) (by kernel_rfl) rfl
theorem fa44_0 : FA Try.prog 44 0 0 := FA.of (T := 9) (k := 0) (by kernel_rfl) (by kernel_rfl)
theorem fa44_1 : FA Try.prog 44 1 1 := FA.of (T := 9) (k := 0) (by kernel_rfl) (by kernel_rfl)
theorem agg44 : Agg Try.prog 44 2 := Agg.of (by kernel_rfl) (by kernel_rfl)
theorem szf44 : (Try.prog.info? 44).map (·.size) = some 2 := by kernel_rfl
theorem zt138 : ZT Try.prog 138 [.string ⟨#[]⟩, .string ⟨#[]⟩, .string ⟨#[]⟩, .int .i64 0, .int .i64 0, .string ⟨#[]⟩, .int .i64 0, .bool false, .string ⟨#[]⟩, .int .i64 0] := ZT.of (z := .agg #[.string ⟨#[]⟩, .string ⟨#[]⟩, .string ⟨#[]⟩, .int .i64 0, .int .i64 0, .string ⟨#[]⟩, .int .i64 0, .bool false, .string ⟨#[]⟩, .int .i64 0]) (by kernel_rfl) rfl
theorem fa138_0 : FA Try.prog 138 0 0 := FA.of (T := 9) (k := 0) (by kernel_rfl) (by kernel_rfl)
theorem fn31 : FN Try.prog 31 := FN.of Try.func31 (by kernel_rfl) (by kernel_rfl)
theorem fa138_1 : FA Try.prog 138 1 1 := FA.of (T := 44) (k := 1) (by kernel_rfl) (by kernel_rfl)
theorem fa138_2 : FA Try.prog 138 2 3 := FA.of (T := 51) (k := 5) (by kernel_rfl) (by kernel_rfl)
theorem fa190_3 : FA Try.prog 190 3 9 := FA.of (T := 3) (k := 0) (by kernel_rfl) (by kernel_rfl)
theorem fa138_3 : FA Try.prog 138 3 9 := FA.of (T := 3) (k := 0) (by kernel_rfl) (by kernel_rfl)
theorem agg138 : Agg Try.prog 138 10 := Agg.of (by kernel_rfl) (by kernel_rfl)
theorem szf138 : (Try.prog.info? 138).map (·.size) = some 10 := by kernel_rfl
theorem elt60 : ElT Try.prog 60 138 (⟨[], ⟨[], []⟩, ⟨0, 0, [], 0, false, []⟩, 0⟩ : TEntry) 120 := ElT.of (zv := .agg #[.string ⟨#[]⟩, .string ⟨#[]⟩, .string ⟨#[]⟩, .int .i64 0, .int .i64 0, .string ⟨#[]⟩, .int .i64 0, .bool false, .string ⟨#[]⟩, .int .i64 0]) (by kernel_rfl) (by kernel_rfl) rfl (fun w => own_flat (TEntry.zok w))
theorem fn143 : FN Try.prog 143 := FN.of Try.func143 (by kernel_rfl) (by kernel_rfl)
theorem slt60 : SlT Try.prog 60 138 10 := ⟨by kernel_rfl, by kernel_rfl⟩
theorem zt62 : ZT Try.prog 62 [.slice none 0 0] := ZT.of (z := .agg #[.slice none 0 0]) (by kernel_rfl) rfl
theorem fn88 : FN Try.prog 88 := FN.of Try.func88 (by kernel_rfl) (by kernel_rfl)
theorem fa62_0 : FA Try.prog 62 0 0 := FA.of (T := 60) (k := 0) (by kernel_rfl) (by kernel_rfl)
theorem szf60 : (Try.prog.info? 60).map (·.size) = some 1 := by kernel_rfl
theorem agg62 : Agg Try.prog 62 1 := Agg.of (by kernel_rfl) (by kernel_rfl)
theorem szf62 : (Try.prog.info? 62).map (·.size) = some 1 := by kernel_rfl
theorem zt147 : ZT Try.prog 147 [.string ⟨#[]⟩, .string ⟨#[]⟩, .string ⟨#[]⟩, .bool false] := ZT.of (z := .agg #[.string ⟨#[]⟩, .string ⟨#[]⟩, .string ⟨#[]⟩, .bool false]) (by kernel_rfl) rfl
theorem fa147_0 : FA Try.prog 147 0 0 := FA.of (T := 9) (k := 0) (by kernel_rfl) (by kernel_rfl)
theorem fa147_1 : FA Try.prog 147 1 1 := FA.of (T := 44) (k := 1) (by kernel_rfl) (by kernel_rfl)
theorem fa196_2 : FA Try.prog 196 2 3 := FA.of (T := 4) (k := 0) (by kernel_rfl) (by kernel_rfl)
theorem fa147_2 : FA Try.prog 147 2 3 := FA.of (T := 4) (k := 0) (by kernel_rfl) (by kernel_rfl)
theorem agg147 : Agg Try.prog 147 4 := Agg.of (by kernel_rfl) (by kernel_rfl)
theorem szf147 : (Try.prog.info? 147).map (·.size) = some 4 := by kernel_rfl
theorem elt73 : ElT Try.prog 73 147 (⟨[], ⟨[], []⟩, false⟩ : TSent) 56 := ElT.of (zv := .agg #[.string ⟨#[]⟩, .string ⟨#[]⟩, .string ⟨#[]⟩, .bool false]) (by kernel_rfl) (by kernel_rfl) rfl (fun w => own_flat (TSent.zok w))
theorem fn147 : FN Try.prog 147 := FN.of Try.func147 (by kernel_rfl) (by kernel_rfl)
theorem slt73 : SlT Try.prog 73 147 4 := ⟨by kernel_rfl, by kernel_rfl⟩
theorem zt75 : ZT Try.prog 75 [.slice none 0 0, .slice none 0 0, .slice none 0 0, .int .i64 0] := ZT.of (z := .agg #[.slice none 0 0, .slice none 0 0, .slice none 0 0, .int .i64 0]) (by kernel_rfl) rfl
theorem fn22 : FN Try.prog 22 := FN.of Try.func22 (by kernel_rfl) (by kernel_rfl)
theorem fa75_0 : FA Try.prog 75 0 0 := FA.of (T := 35) (k := 0) (by kernel_rfl) (by kernel_rfl)
theorem szf35 : (Try.prog.info? 35).map (·.size) = some 1 := by kernel_rfl
theorem fn36 : FN Try.prog 36 := FN.of Try.func36 (by kernel_rfl) (by kernel_rfl)
theorem fa75_1 : FA Try.prog 75 1 1 := FA.of (T := 62) (k := 0) (by kernel_rfl) (by kernel_rfl)
theorem fn96 : FN Try.prog 96 := FN.of Try.func96 (by kernel_rfl) (by kernel_rfl)
theorem fa75_2 : FA Try.prog 75 2 2 := FA.of (T := 73) (k := 0) (by kernel_rfl) (by kernel_rfl)
theorem szf73 : (Try.prog.info? 73).map (·.size) = some 1 := by kernel_rfl
theorem fa70_3 : FA Try.prog 70 3 3 := FA.of (T := 3) (k := 0) (by kernel_rfl) (by kernel_rfl)
theorem fa75_3 : FA Try.prog 75 3 3 := FA.of (T := 3) (k := 0) (by kernel_rfl) (by kernel_rfl)
theorem agg75 : Agg Try.prog 75 4 := Agg.of (by kernel_rfl) (by kernel_rfl)
theorem szf75 : (Try.prog.info? 75).map (·.size) = some 4 := by kernel_rfl
theorem bool4 : Try.prog.underlying 4 = some .bool := by kernel_rfl
theorem fn33 : FN Try.prog 33 := FN.of Try.func33 (by kernel_rfl) (by kernel_rfl)
theorem slu122 : Try.prog.underlying 122 = some (.slice 126) := by kernel_rfl
theorem mixed : Try.prog.follows .mixedOrders = true := by kernel_rfl
theorem fn168 : FN Try.prog 168 := FN.of Try.func168 (by kernel_rfl) (by kernel_rfl)
theorem sca122 : Sca Try.prog 122 := Sca.of (by kernel_rfl) (by kernel_rfl)
theorem fn130 : FN Try.prog 130 := FN.of Try.func130 (by kernel_rfl) (by kernel_rfl)
theorem slu35 : Try.prog.underlying 35 = some (.slice 124) := by kernel_rfl
theorem fn76 : FN Try.prog 76 := FN.of Try.func76 (by kernel_rfl) (by kernel_rfl)
theorem fn117 : FN Try.prog 117 := FN.of Try.func117 (by kernel_rfl) (by kernel_rfl)
theorem slu60 : Try.prog.underlying 60 = some (.slice 138) := by kernel_rfl
theorem fn145 : FN Try.prog 145 := FN.of Try.func145 (by kernel_rfl) (by kernel_rfl)
theorem sca60 : Sca Try.prog 60 := Sca.of (by kernel_rfl) (by kernel_rfl)
theorem fn92 : FN Try.prog 92 := FN.of Try.func92 (by kernel_rfl) (by kernel_rfl)
theorem slu73 : Try.prog.underlying 73 = some (.slice 147) := by kernel_rfl
theorem fn101 : FN Try.prog 101 := FN.of Try.func101 (by kernel_rfl) (by kernel_rfl)
theorem sca35 : Sca Try.prog 35 := Sca.of (by kernel_rfl) (by kernel_rfl)
theorem fn24 : FN Try.prog 24 := FN.of Try.func24 (by kernel_rfl) (by kernel_rfl)
theorem fn38 : FN Try.prog 38 := FN.of Try.func38 (by kernel_rfl) (by kernel_rfl)
theorem sca73 : Sca Try.prog 73 := Sca.of (by kernel_rfl) (by kernel_rfl)
theorem fn50 : FN Try.prog 50 := FN.of Try.func50 (by kernel_rfl) (by kernel_rfl)
theorem sll73 : SlLit Try.prog 73 147 4 [.string ⟨#[]⟩, .string ⟨#[]⟩, .string ⟨#[]⟩, .bool false] := SlLit.of (zv := .agg #[.string ⟨#[]⟩, .string ⟨#[]⟩, .string ⟨#[]⟩, .bool false]) (by kernel_rfl) (by kernel_rfl) (by kernel_rfl) rfl
theorem u8t5 : Try.prog.underlying 5 = some (.int .u8) := by kernel_rfl
theorem sll199 : SlLit Try.prog 199 5 1 [.int .u8 0] := SlLit.of (zv := .int .u8 0) (by kernel_rfl) (by kernel_rfl) (by kernel_rfl) rfl
theorem slu199 : Try.prog.underlying 199 = some (.slice 5) := by kernel_rfl
theorem fn103 : FN Try.prog 103 := FN.of Try.func103 (by kernel_rfl) (by kernel_rfl)
theorem fn93 : FN Try.prog 93 := FN.of Try.func93 (by kernel_rfl) (by kernel_rfl)
theorem fn149 : FN Try.prog 149 := FN.of Try.func149 (by kernel_rfl) (by kernel_rfl)
theorem fn102 : FN Try.prog 102 := FN.of Try.func102 (by kernel_rfl) (by kernel_rfl)
theorem fn39 : FN Try.prog 39 := FN.of Try.func39 (by kernel_rfl) (by kernel_rfl)
theorem fn52 : FN Try.prog 52 := FN.of Try.func52 (by kernel_rfl) (by kernel_rfl)
theorem agg70 : Agg Try.prog 70 4 := Agg.of (by kernel_rfl) (by kernel_rfl)
theorem fn41 : FN Try.prog 41 := FN.of Try.func41 (by kernel_rfl) (by kernel_rfl)
theorem fn43 : FN Try.prog 43 := FN.of Try.func43 (by kernel_rfl) (by kernel_rfl)
theorem fn48 : FN Try.prog 48 := FN.of Try.func48 (by kernel_rfl) (by kernel_rfl)
theorem fn49 : FN Try.prog 49 := FN.of Try.func49 (by kernel_rfl) (by kernel_rfl)
theorem fn45 : FN Try.prog 45 := FN.of Try.func45 (by kernel_rfl) (by kernel_rfl)
theorem fn51 : FN Try.prog 51 := FN.of Try.func51 (by kernel_rfl) (by kernel_rfl)
theorem fn53 : FN Try.prog 53 := FN.of Try.func53 (by kernel_rfl) (by kernel_rfl)

end Go.Sw
