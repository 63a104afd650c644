/- Facts on the types and functions of this translation, each closed. No conditions. -/
import Derived.Test.YtppjnohcfljmoaaGreatDoorRows
import Derived.Test.YtppjnohcfljmoaaGreatDoorLibZ
import Derived.Test.YtppjnohcfljmoaaGreatDoorSh
import Derived.WalkSpells
namespace Go.Sw
open Go Go.RowKit Go.Proofs

theorem fa58_2 : FA Tryz.prog 58 2 2 := FA.of (T := 9) (k := 0) (by kernel_rfl) (by kernel_rfl)
theorem sca9 : Sca Tryz.prog 9 := Sca.of (by kernel_rfl) (by kernel_rfl)
theorem str9 : Tryz.prog.underlying 9 = some .string := by kernel_rfl
theorem fa58_5 : FA Tryz.prog 58 5 5 := FA.of (T := 9) (k := 0) (by kernel_rfl) (by kernel_rfl)
theorem fa270_0 : FA Tryz.prog 270 0 0 := FA.of (T := 9) (k := 0) (by kernel_rfl) (by kernel_rfl)
theorem fa270_1 : FA Tryz.prog 270 1 1 := FA.of (T := 58) (k := 5) (by kernel_rfl) (by kernel_rfl)
theorem agg58 : Agg Tryz.prog 58 6 := Agg.of (by kernel_rfl) (by kernel_rfl)
theorem fn25 : FN Tryz.prog 25 := FN.of Tryz.func25 (by kernel_rfl) (by kernel_rfl)
theorem slu170 : Tryz.prog.underlying 170 = some (.slice 270) := by kernel_rfl
theorem slt170 : SlT Tryz.prog 170 270 7 := ⟨by kernel_rfl, by kernel_rfl⟩
theorem agg270 : Agg Tryz.prog 270 7 := Agg.of (by kernel_rfl) (by kernel_rfl)
theorem fn213 : FN Tryz.prog 213 := FN.of Tryz.func213 (by kernel_rfl) (by kernel_rfl)
theorem fa172_0 : FA Tryz.prog 172 0 0 := FA.of (T := 9) (k := 0) (by kernel_rfl) (by kernel_rfl)
theorem fa172_1 : FA Tryz.prog 172 1 1 := FA.of (T := 170) (k := 0) (by kernel_rfl) (by kernel_rfl)
theorem sca170 : Sca Tryz.prog 170 := Sca.of (by kernel_rfl) (by kernel_rfl)
theorem fn178 : FN Tryz.prog 178 := FN.of Tryz.func178 (by kernel_rfl) (by kernel_rfl)
theorem slu22 : Tryz.prog.underlying 22 = some (.slice 172) := by kernel_rfl
theorem slt22 : SlT Tryz.prog 22 172 2 := ⟨by kernel_rfl, by kernel_rfl⟩
theorem agg172 : Agg Tryz.prog 172 2 := Agg.of (by kernel_rfl) (by kernel_rfl)
theorem fn131 : FN Tryz.prog 131 := FN.of Tryz.func131 (by kernel_rfl) (by kernel_rfl)
theorem fa30_0 : FA Tryz.prog 30 0 0 := FA.of (T := 9) (k := 0) (by kernel_rfl) (by kernel_rfl)
theorem fa30_1 : FA Tryz.prog 30 1 1 := FA.of (T := 9) (k := 0) (by kernel_rfl) (by kernel_rfl)
theorem fa224_0 : FA Tryz.prog 224 0 0 := FA.of (T := 9) (k := 0) (by kernel_rfl) (by kernel_rfl)
theorem fa224_1 : FA Tryz.prog 224 1 1 := FA.of (T := 30) (k := 1) (by kernel_rfl) (by kernel_rfl)
theorem agg30 : Agg Tryz.prog 30 2 := Agg.of (by kernel_rfl) (by kernel_rfl)
theorem fn12 : FN Tryz.prog 12 := FN.of Tryz.func12 (by kernel_rfl) (by kernel_rfl)
theorem fa224_2 : FA Tryz.prog 224 2 3 := FA.of (T := 58) (k := 5) (by kernel_rfl) (by kernel_rfl)
theorem slu23 : Tryz.prog.underlying 23 = some (.slice 224) := by kernel_rfl
theorem slt23 : SlT Tryz.prog 23 224 10 := ⟨by kernel_rfl, by kernel_rfl⟩
theorem agg224 : Agg Tryz.prog 224 10 := Agg.of (by kernel_rfl) (by kernel_rfl)
theorem fn179 : FN Tryz.prog 179 := FN.of Tryz.func179 (by kernel_rfl) (by kernel_rfl)
theorem fa25_0 : FA Tryz.prog 25 0 0 := FA.of (T := 23) (k := 0) (by kernel_rfl) (by kernel_rfl)
theorem sca23 : Sca Tryz.prog 23 := Sca.of (by kernel_rfl) (by kernel_rfl)
theorem fn132 : FN Tryz.prog 132 := FN.of Tryz.func132 (by kernel_rfl) (by kernel_rfl)
theorem fa176_0 : FA Tryz.prog 176 0 0 := FA.of (T := 9) (k := 0) (by kernel_rfl) (by kernel_rfl)
theorem fa176_1 : FA Tryz.prog 176 1 1 := FA.of (T := 30) (k := 1) (by kernel_rfl) (by kernel_rfl)
theorem slu26 : Tryz.prog.underlying 26 = some (.slice 176) := by kernel_rfl
theorem slt26 : SlT Tryz.prog 26 176 4 := ⟨by kernel_rfl, by kernel_rfl⟩
theorem agg176 : Agg Tryz.prog 176 4 := Agg.of (by kernel_rfl) (by kernel_rfl)
theorem fn133 : FN Tryz.prog 133 := FN.of Tryz.func133 (by kernel_rfl) (by kernel_rfl)
theorem fa28_0 : FA Tryz.prog 28 0 0 := FA.of (T := 22) (k := 0) (by kernel_rfl) (by kernel_rfl)
theorem sca22 : Sca Tryz.prog 22 := Sca.of (by kernel_rfl) (by kernel_rfl)
theorem fn60 : FN Tryz.prog 60 := FN.of Tryz.func60 (by kernel_rfl) (by kernel_rfl)
theorem fa28_1 : FA Tryz.prog 28 1 1 := FA.of (T := 25) (k := 0) (by kernel_rfl) (by kernel_rfl)
theorem agg25 : Agg Tryz.prog 25 1 := Agg.of (by kernel_rfl) (by kernel_rfl)
theorem fn61 : FN Tryz.prog 61 := FN.of Tryz.func61 (by kernel_rfl) (by kernel_rfl)
theorem fa28_2 : FA Tryz.prog 28 2 2 := FA.of (T := 26) (k := 0) (by kernel_rfl) (by kernel_rfl)
theorem sca26 : Sca Tryz.prog 26 := Sca.of (by kernel_rfl) (by kernel_rfl)
theorem fn62 : FN Tryz.prog 62 := FN.of Tryz.func62 (by kernel_rfl) (by kernel_rfl)
theorem zt41 : ZT Tryz.prog 41 [.int .i64 0, .int .i64 0, .string ⟨#[]⟩, .int .i64 0, .bool false, .string ⟨#[]⟩] := ZT.of (z := .agg #[.int .i64 0, .int .i64 0, .string ⟨#[]⟩, .int .i64 0, .bool false, .string ⟨#[]⟩]) (by kernel_rfl) rfl
theorem fa58_0 : FA Tryz.prog 58 0 0 := FA.of (T := 3) (k := 0) (by kernel_rfl) (by kernel_rfl)
theorem sca3 : Sca Tryz.prog 3 := Sca.of (by kernel_rfl) (by kernel_rfl)
theorem fa41_0 : FA Tryz.prog 41 0 0 := FA.of (T := 3) (k := 0) (by kernel_rfl) (by kernel_rfl)
theorem szf3 : (Tryz.prog.info? 3).map (·.size) = some 1 := by kernel_rfl
theorem fa58_1 : FA Tryz.prog 58 1 1 := FA.of (T := 3) (k := 0) (by kernel_rfl) (by kernel_rfl)
theorem fa41_1 : FA Tryz.prog 41 1 1 := FA.of (T := 3) (k := 0) (by kernel_rfl) (by kernel_rfl)
theorem fa41_2 : FA Tryz.prog 41 2 2 := FA.of (T := 9) (k := 0) (by kernel_rfl) (by kernel_rfl)
theorem szf9 : (Tryz.prog.info? 9).map (·.size) = some 1 := by kernel_rfl
theorem fa58_3 : FA Tryz.prog 58 3 3 := FA.of (T := 3) (k := 0) (by kernel_rfl) (by kernel_rfl)
theorem fa41_3 : FA Tryz.prog 41 3 3 := FA.of (T := 3) (k := 0) (by kernel_rfl) (by kernel_rfl)
theorem fa58_4 : FA Tryz.prog 58 4 4 := FA.of (T := 4) (k := 0) (by kernel_rfl) (by kernel_rfl)
theorem sca4 : Sca Tryz.prog 4 := Sca.of (by kernel_rfl) (by kernel_rfl)
theorem fa41_4 : FA Tryz.prog 41 4 4 := FA.of (T := 4) (k := 0) (by kernel_rfl) (by kernel_rfl)
theorem szf4 : (Tryz.prog.info? 4).map (·.size) = some 1 := by kernel_rfl
theorem fa41_5 : FA Tryz.prog 41 5 5 := FA.of (T := 9) (k := 0) (by kernel_rfl) (by kernel_rfl)
theorem agg41 : Agg Tryz.prog 41 6 := Agg.of (by kernel_rfl) (by kernel_rfl)
theorem szf41 : (Tryz.prog.info? 41).map (·.size) = some 6 := by kernel_rfl
theorem zt187 : ZT Tryz.prog 187 [.string ⟨#[]⟩, .int .i64 0, .int .i64 0, .string ⟨#[]⟩, .int .i64 0, .bool false, .string ⟨#[]⟩] := ZT.of (z := .agg #[.string ⟨#[]⟩, .int .i64 0, .int .i64 0, .string ⟨#[]⟩, .int .i64 0, .bool false, .string ⟨#[]⟩]) (by kernel_rfl) rfl
theorem fa187_0 : FA Tryz.prog 187 0 0 := FA.of (T := 9) (k := 0) (by kernel_rfl) (by kernel_rfl)
theorem fn29 : FN Tryz.prog 29 := FN.of Tryz.func29 (by kernel_rfl) (by kernel_rfl)
theorem fa187_1 : FA Tryz.prog 187 1 1 := FA.of (T := 41) (k := 5) (by kernel_rfl) (by kernel_rfl)
theorem agg187 : Agg Tryz.prog 187 7 := Agg.of (by kernel_rfl) (by kernel_rfl)
theorem szf187 : (Tryz.prog.info? 187).map (·.size) = some 7 := by kernel_rfl
theorem elt183 : ElT Tryz.prog 183 187 (⟨[], ⟨0, 0, [], 0, false, []⟩⟩ : TFile) 80 := ElT.of (zv := .agg #[.string ⟨#[]⟩, .int .i64 0, .int .i64 0, .string ⟨#[]⟩, .int .i64 0, .bool false, .string ⟨#[]⟩]) (by kernel_rfl) (by kernel_rfl) rfl (fun w => own_flat (TFile.zok w))
theorem fn214 : FN Tryz.prog 214 := FN.of Tryz.func214 (by kernel_rfl) (by kernel_rfl)
theorem slt183 : SlT Tryz.prog 183 187 7 := ⟨by kernel_rfl, by kernel_rfl⟩
theorem zt185 : ZT Tryz.prog 185 [.string ⟨#[]⟩, .slice none 0 0] := ZT.of (z := .agg #[.string ⟨#[]⟩, .slice none 0 0]) (by kernel_rfl) rfl
theorem fa185_0 : FA Tryz.prog 185 0 0 := FA.of (T := 9) (k := 0) (by kernel_rfl) (by kernel_rfl)
theorem fn180 : FN Tryz.prog 180 := FN.of Tryz.func180 (by kernel_rfl) (by kernel_rfl)
theorem fa185_1 : FA Tryz.prog 185 1 1 := FA.of (T := 183) (k := 0) (by kernel_rfl) (by kernel_rfl)
theorem szf183 : (Tryz.prog.info? 183).map (·.size) = some 1 := by kernel_rfl
theorem agg185 : Agg Tryz.prog 185 2 := Agg.of (by kernel_rfl) (by kernel_rfl)
theorem szf185 : (Tryz.prog.info? 185).map (·.size) = some 2 := by kernel_rfl
theorem elt33 : ElT Tryz.prog 33 185 (⟨[], ⟨[], none, 0⟩⟩ : PServer) 40 := ElT.of (zv := .agg #[.string ⟨#[]⟩, .slice none 0 0]) (by kernel_rfl) (by kernel_rfl) rfl (fun w => PServer.zown w)
theorem fn138 : FN Tryz.prog 138 := FN.of Tryz.func138 (by kernel_rfl) (by kernel_rfl)
theorem slt33 : SlT Tryz.prog 33 185 2 := ⟨by kernel_rfl, by kernel_rfl⟩
theorem zt45 : ZT Tryz.prog 45 [.string ⟨#[]⟩, .string ⟨#[]⟩] := ZT.of (z := .agg #[.string ⟨#[]⟩, .string ⟨#[]⟩]) (by kernel_rfl) rfl
theorem fa45_0 : FA Tryz.prog 45 0 0 := FA.of (T := 9) (k := 0) (by kernel_rfl) (by kernel_rfl)
theorem fa45_1 : FA Tryz.prog 45 1 1 := FA.of (T := 9) (k := 0) (by kernel_rfl) (by kernel_rfl)
theorem agg45 : Agg Tryz.prog 45 2 := Agg.of (by kernel_rfl) (by kernel_rfl)
theorem szf45 : (Tryz.prog.info? 45).map (·.size) = some 2 := by kernel_rfl
theorem zt180 : ZT Tryz.prog 180 [.string ⟨#[]⟩, .string ⟨#[]⟩, .string ⟨#[]⟩, .int .i64 0, .int .i64 0, .string ⟨#[]⟩, .int .i64 0, .bool false, .string ⟨#[]⟩, .int .i64 0] := ZT.of (z := .agg #[.string ⟨#[]⟩, .string ⟨#[]⟩, .string ⟨#[]⟩, .int .i64 0, .int .i64 0, .string ⟨#[]⟩, .int .i64 0, .bool false, .string ⟨#[]⟩, .int .i64 0]) (by kernel_rfl) rfl
theorem fa180_0 : FA Tryz.prog 180 0 0 := FA.of (T := 9) (k := 0) (by kernel_rfl) (by kernel_rfl)
theorem fn15 : FN Tryz.prog 15 := FN.of Tryz.func15 (by kernel_rfl) (by kernel_rfl)
theorem fa180_1 : FA Tryz.prog 180 1 1 := FA.of (T := 45) (k := 1) (by kernel_rfl) (by kernel_rfl)
theorem fa180_2 : FA Tryz.prog 180 2 3 := FA.of (T := 41) (k := 5) (by kernel_rfl) (by kernel_rfl)
theorem fa224_3 : FA Tryz.prog 224 3 9 := FA.of (T := 3) (k := 0) (by kernel_rfl) (by kernel_rfl)
theorem fa180_3 : FA Tryz.prog 180 3 9 := FA.of (T := 3) (k := 0) (by kernel_rfl) (by kernel_rfl)
theorem agg180 : Agg Tryz.prog 180 10 := Agg.of (by kernel_rfl) (by kernel_rfl)
theorem szf180 : (Tryz.prog.info? 180).map (·.size) = some 10 := by kernel_rfl
theorem elt34 : ElT Tryz.prog 34 180 (⟨[], ⟨[], []⟩, ⟨0, 0, [], 0, false, []⟩, 0⟩ : TEntry) 120 := ElT.of (zv := .agg #[.string ⟨#[]⟩, .string ⟨#[]⟩, .string ⟨#[]⟩, .int .i64 0, .int .i64 0, .string ⟨#[]⟩, .int .i64 0, .bool false, .string ⟨#[]⟩, .int .i64 0]) (by kernel_rfl) (by kernel_rfl) rfl (fun w => own_flat (TEntry.zok w))
theorem fn181 : FN Tryz.prog 181 := FN.of Tryz.func181 (by kernel_rfl) (by kernel_rfl)
theorem slt34 : SlT Tryz.prog 34 180 10 := ⟨by kernel_rfl, by kernel_rfl⟩
theorem zt36 : ZT Tryz.prog 36 [.slice none 0 0] := ZT.of (z := .agg #[.slice none 0 0]) (by kernel_rfl) rfl
theorem fn139 : FN Tryz.prog 139 := FN.of Tryz.func139 (by kernel_rfl) (by kernel_rfl)
theorem fa36_0 : FA Tryz.prog 36 0 0 := FA.of (T := 34) (k := 0) (by kernel_rfl) (by kernel_rfl)
theorem szf34 : (Tryz.prog.info? 34).map (·.size) = some 1 := by kernel_rfl
theorem agg36 : Agg Tryz.prog 36 1 := Agg.of (by kernel_rfl) (by kernel_rfl)
theorem szf36 : (Tryz.prog.info? 36).map (·.size) = some 1 := by kernel_rfl
theorem zt123 : ZT Tryz.prog 123 [.string ⟨#[]⟩, .string ⟨#[]⟩, .string ⟨#[]⟩, .bool false] := ZT.of (z := .agg #[.string ⟨#[]⟩, .string ⟨#[]⟩, .string ⟨#[]⟩, .bool false]) (by kernel_rfl) rfl
theorem fa123_0 : FA Tryz.prog 123 0 0 := FA.of (T := 9) (k := 0) (by kernel_rfl) (by kernel_rfl)
theorem fa123_1 : FA Tryz.prog 123 1 1 := FA.of (T := 45) (k := 1) (by kernel_rfl) (by kernel_rfl)
theorem fa176_2 : FA Tryz.prog 176 2 3 := FA.of (T := 4) (k := 0) (by kernel_rfl) (by kernel_rfl)
theorem fa123_2 : FA Tryz.prog 123 2 3 := FA.of (T := 4) (k := 0) (by kernel_rfl) (by kernel_rfl)
theorem agg123 : Agg Tryz.prog 123 4 := Agg.of (by kernel_rfl) (by kernel_rfl)
theorem szf123 : (Tryz.prog.info? 123).map (·.size) = some 4 := by kernel_rfl
theorem elt37 : ElT Tryz.prog 37 123 (⟨[], ⟨[], []⟩, false⟩ : TSent) 56 := ElT.of (zv := .agg #[.string ⟨#[]⟩, .string ⟨#[]⟩, .string ⟨#[]⟩, .bool false]) (by kernel_rfl) (by kernel_rfl) rfl (fun w => own_flat (TSent.zok w))
theorem fn140 : FN Tryz.prog 140 := FN.of Tryz.func140 (by kernel_rfl) (by kernel_rfl)
theorem slt37 : SlT Tryz.prog 37 123 4 := ⟨by kernel_rfl, by kernel_rfl⟩
theorem zt39 : ZT Tryz.prog 39 [.slice none 0 0, .slice none 0 0, .slice none 0 0, .int .i64 0] := ZT.of (z := .agg #[.slice none 0 0, .slice none 0 0, .slice none 0 0, .int .i64 0]) (by kernel_rfl) rfl
theorem fn68 : FN Tryz.prog 68 := FN.of Tryz.func68 (by kernel_rfl) (by kernel_rfl)
theorem fa39_0 : FA Tryz.prog 39 0 0 := FA.of (T := 33) (k := 0) (by kernel_rfl) (by kernel_rfl)
theorem szf33 : (Tryz.prog.info? 33).map (·.size) = some 1 := by kernel_rfl
theorem fn69 : FN Tryz.prog 69 := FN.of Tryz.func69 (by kernel_rfl) (by kernel_rfl)
theorem fa39_1 : FA Tryz.prog 39 1 1 := FA.of (T := 36) (k := 0) (by kernel_rfl) (by kernel_rfl)
theorem fn70 : FN Tryz.prog 70 := FN.of Tryz.func70 (by kernel_rfl) (by kernel_rfl)
theorem fa39_2 : FA Tryz.prog 39 2 2 := FA.of (T := 37) (k := 0) (by kernel_rfl) (by kernel_rfl)
theorem szf37 : (Tryz.prog.info? 37).map (·.size) = some 1 := by kernel_rfl
theorem fa28_3 : FA Tryz.prog 28 3 3 := FA.of (T := 3) (k := 0) (by kernel_rfl) (by kernel_rfl)
theorem fa39_3 : FA Tryz.prog 39 3 3 := FA.of (T := 3) (k := 0) (by kernel_rfl) (by kernel_rfl)
theorem agg39 : Agg Tryz.prog 39 4 := Agg.of (by kernel_rfl) (by kernel_rfl)
theorem szf39 : (Tryz.prog.info? 39).map (·.size) = some 4 := by kernel_rfl
theorem bool4 : Tryz.prog.underlying 4 = some .bool := by kernel_rfl
theorem fn18 : FN Tryz.prog 18 := FN.of Tryz.func18 (by kernel_rfl) (by kernel_rfl)
theorem slu183 : Tryz.prog.underlying 183 = some (.slice 187) := by kernel_rfl
theorem mixed : Tryz.prog.follows .mixedOrders = true := by kernel_rfl
theorem fn215 : FN Tryz.prog 215 := FN.of Tryz.func215 (by kernel_rfl) (by kernel_rfl)
theorem sca183 : Sca Tryz.prog 183 := Sca.of (by kernel_rfl) (by kernel_rfl)
theorem fn186 : FN Tryz.prog 186 := FN.of Tryz.func186 (by kernel_rfl) (by kernel_rfl)
theorem slu33 : Tryz.prog.underlying 33 = some (.slice 185) := by kernel_rfl
theorem fn147 : FN Tryz.prog 147 := FN.of Tryz.func147 (by kernel_rfl) (by kernel_rfl)
theorem fn188 : FN Tryz.prog 188 := FN.of Tryz.func188 (by kernel_rfl) (by kernel_rfl)
theorem slu34 : Tryz.prog.underlying 34 = some (.slice 180) := by kernel_rfl
theorem fn187 : FN Tryz.prog 187 := FN.of Tryz.func187 (by kernel_rfl) (by kernel_rfl)
theorem sca34 : Sca Tryz.prog 34 := Sca.of (by kernel_rfl) (by kernel_rfl)
theorem fn148 : FN Tryz.prog 148 := FN.of Tryz.func148 (by kernel_rfl) (by kernel_rfl)
theorem slu37 : Tryz.prog.underlying 37 = some (.slice 123) := by kernel_rfl
theorem fn149 : FN Tryz.prog 149 := FN.of Tryz.func149 (by kernel_rfl) (by kernel_rfl)
theorem sca33 : Sca Tryz.prog 33 := Sca.of (by kernel_rfl) (by kernel_rfl)
theorem fn76 : FN Tryz.prog 76 := FN.of Tryz.func76 (by kernel_rfl) (by kernel_rfl)
theorem fn77 : FN Tryz.prog 77 := FN.of Tryz.func77 (by kernel_rfl) (by kernel_rfl)
theorem sca37 : Sca Tryz.prog 37 := Sca.of (by kernel_rfl) (by kernel_rfl)
theorem fn78 : FN Tryz.prog 78 := FN.of Tryz.func78 (by kernel_rfl) (by kernel_rfl)
theorem u8t5 : Tryz.prog.underlying 5 = some (.int .u8) := by kernel_rfl
theorem sll211 : SlLit Tryz.prog 211 5 1 [.int .u8 0] := SlLit.of (zv := .int .u8 0) (by kernel_rfl) (by kernel_rfl) (by kernel_rfl) rfl
theorem slu211 : Tryz.prog.underlying 211 = some (.slice 5) := by kernel_rfl
theorem fn128 : FN Tryz.prog 128 := FN.of Tryz.func128 (by kernel_rfl) (by kernel_rfl)
theorem fn150 : FN Tryz.prog 150 := FN.of Tryz.func150 (by kernel_rfl) (by kernel_rfl)
theorem fn151 : FN Tryz.prog 151 := FN.of Tryz.func151 (by kernel_rfl) (by kernel_rfl)
theorem fn79 : FN Tryz.prog 79 := FN.of Tryz.func79 (by kernel_rfl) (by kernel_rfl)
theorem fn80 : FN Tryz.prog 80 := FN.of Tryz.func80 (by kernel_rfl) (by kernel_rfl)
theorem fn81 : FN Tryz.prog 81 := FN.of Tryz.func81 (by kernel_rfl) (by kernel_rfl)
theorem fn152 : FN Tryz.prog 152 := FN.of Tryz.func152 (by kernel_rfl) (by kernel_rfl)
theorem fn153 : FN Tryz.prog 153 := FN.of Tryz.func153 (by kernel_rfl) (by kernel_rfl)
theorem fn82 : FN Tryz.prog 82 := FN.of Tryz.func82 (by kernel_rfl) (by kernel_rfl)
theorem fn83 : FN Tryz.prog 83 := FN.of Tryz.func83 (by kernel_rfl) (by kernel_rfl)
theorem fn84 : FN Tryz.prog 84 := FN.of Tryz.func84 (by kernel_rfl) (by kernel_rfl)
theorem sll53 : SlLit Tryz.prog 53 9 1 [.string ⟨#[]⟩] := SlLit.of (zv := .string ⟨#[]⟩) (by kernel_rfl) (by kernel_rfl) (by kernel_rfl) rfl
theorem elt53 : ElT Tryz.prog 53 9 ([] : Str) 16 := ElT.of (zv := .string ⟨#[]⟩) (by kernel_rfl) (by kernel_rfl) rfl (fun w => own_flat (Nat.zero_le _))
theorem fn87 : FN Tryz.prog 87 := FN.of Tryz.func87 (by kernel_rfl) (by kernel_rfl)
theorem slu53 : Tryz.prog.underlying 53 = some (.slice 9) := by kernel_rfl
theorem slt53 : SlT Tryz.prog 53 9 1 := ⟨by kernel_rfl, by kernel_rfl⟩
theorem fn106 : FN Tryz.prog 106 := FN.of Tryz.func106 (by kernel_rfl) (by kernel_rfl)
theorem fa63_0 : FA Tryz.prog 63 0 0 := FA.of (T := 4) (k := 0) (by kernel_rfl) (by kernel_rfl)
theorem fa63_1 : FA Tryz.prog 63 1 1 := FA.of (T := 53) (k := 0) (by kernel_rfl) (by kernel_rfl)
theorem sca53 : Sca Tryz.prog 53 := Sca.of (by kernel_rfl) (by kernel_rfl)
theorem fa63_2 : FA Tryz.prog 63 2 2 := FA.of (T := 53) (k := 0) (by kernel_rfl) (by kernel_rfl)
theorem fa63_3 : FA Tryz.prog 63 3 3 := FA.of (T := 53) (k := 0) (by kernel_rfl) (by kernel_rfl)
theorem fa63_4 : FA Tryz.prog 63 4 4 := FA.of (T := 9) (k := 0) (by kernel_rfl) (by kernel_rfl)
theorem fn232 : FN Tryz.prog 232 := FN.of Tryz.func232 (by kernel_rfl) (by kernel_rfl)
theorem fn190 : FN Tryz.prog 190 := FN.of Tryz.func190 (by kernel_rfl) (by kernel_rfl)
theorem agg63 : Agg Tryz.prog 63 5 := Agg.of (by kernel_rfl) (by kernel_rfl)
theorem fn216 : FN Tryz.prog 216 := FN.of Tryz.func216 (by kernel_rfl) (by kernel_rfl)
theorem fn217 : FN Tryz.prog 217 := FN.of Tryz.func217 (by kernel_rfl) (by kernel_rfl)
theorem zt63 : ZT Tryz.prog 63 [.bool false, .slice none 0 0, .slice none 0 0, .slice none 0 0, .string ⟨#[]⟩] := ZT.of (z := .agg #[.bool false, .slice none 0 0, .slice none 0 0, .slice none 0 0, .string ⟨#[]⟩]) (by kernel_rfl) rfl
theorem bt63 : BT Tryz.prog 63 [.bool false, .slice none 0 0, .slice none 0 0, .slice none 0 0, .string ⟨#[]⟩] [(0, 1), (1, 1), (2, 1), (3, 1), (4, 1)] := BT.of (z := .agg #[.bool false, .slice none 0 0, .slice none 0 0, .slice none 0 0, .string ⟨#[]⟩]) (by kernel_rfl) (by kernel_rfl) rfl (fun w => by kernel_rfl)
theorem szf63 : (Tryz.prog.info? 63).map (·.size) = some 5 := by kernel_rfl
theorem fn192 : FN Tryz.prog 192 := FN.of Tryz.func192 (by kernel_rfl) (by kernel_rfl)
theorem fn193 : FN Tryz.prog 193 := FN.of Tryz.func193 (by kernel_rfl) (by kernel_rfl)
theorem fn160 : FN Tryz.prog 160 := FN.of Tryz.func160 (by kernel_rfl) (by kernel_rfl)
theorem fn93 : FN Tryz.prog 93 := FN.of Tryz.func93 (by kernel_rfl) (by kernel_rfl)
theorem fn154 : FN Tryz.prog 154 := FN.of Tryz.func154 (by kernel_rfl) (by kernel_rfl)
theorem fn136 : FN Tryz.prog 136 := FN.of Tryz.func136 (by kernel_rfl) (by kernel_rfl)
theorem eqin45 (d : Nat) (x y : TAddr) (w : World) : (Op.equalIn (d + 2) 45 (.agg #[S x.host, S x.path]) (.agg #[S y.host, S y.path])).run Tryz.prog w = .ok (decide (x = y)) w := by
  have hf : Tryz.prog.fieldsOf 45 = #[⟨ "Host", 9, 0, false, "", "", 0⟩, ⟨ "Path", 9, 1, false, "", "", 16⟩] := by kernel_rfl
  rw [run_equalIn_agg w (d + 1) 45 _ _ (by kernel_rfl) (by kernel_rfl), hf]
  simp [Op.eqFields, go_sem, TAddr.ext_iff]
  try ((repeat' split) <;> simp_all)
theorem eqt45 : EqT Tryz.prog 45 (α := TAddr) := run_eqt_of (eqin45 9998) (by kernel_rfl)
theorem fn64 : FN Tryz.prog 64 := FN.of Tryz.func64 (by kernel_rfl) (by kernel_rfl)
theorem fn155 : FN Tryz.prog 155 := FN.of Tryz.func155 (by kernel_rfl) (by kernel_rfl)
theorem fn85 : FN Tryz.prog 85 := FN.of Tryz.func85 (by kernel_rfl) (by kernel_rfl)
theorem fn86 : FN Tryz.prog 86 := FN.of Tryz.func86 (by kernel_rfl) (by kernel_rfl)
theorem sll33 : SlLit Tryz.prog 33 185 2 [.string ⟨#[]⟩, .slice none 0 0] := SlLit.of (zv := .agg #[.string ⟨#[]⟩, .slice none 0 0]) (by kernel_rfl) (by kernel_rfl) (by kernel_rfl) rfl
theorem sll183 : SlLit Tryz.prog 183 187 7 [.string ⟨#[]⟩, .int .i64 0, .int .i64 0, .string ⟨#[]⟩, .int .i64 0, .bool false, .string ⟨#[]⟩] := SlLit.of (zv := .agg #[.string ⟨#[]⟩, .int .i64 0, .int .i64 0, .string ⟨#[]⟩, .int .i64 0, .bool false, .string ⟨#[]⟩]) (by kernel_rfl) (by kernel_rfl) (by kernel_rfl) rfl
theorem bt185 : BT Tryz.prog 185 [.string ⟨#[]⟩, .slice none 0 0] [(0, 1), (1, 1)] := BT.of (z := .agg #[.string ⟨#[]⟩, .slice none 0 0]) (by kernel_rfl) (by kernel_rfl) rfl (fun w => by kernel_rfl)
theorem sll34 : SlLit Tryz.prog 34 180 10 [.string ⟨#[]⟩, .string ⟨#[]⟩, .string ⟨#[]⟩, .int .i64 0, .int .i64 0, .string ⟨#[]⟩, .int .i64 0, .bool false, .string ⟨#[]⟩, .int .i64 0] := SlLit.of (zv := .agg #[.string ⟨#[]⟩, .string ⟨#[]⟩, .string ⟨#[]⟩, .int .i64 0, .int .i64 0, .string ⟨#[]⟩, .int .i64 0, .bool false, .string ⟨#[]⟩, .int .i64 0]) (by kernel_rfl) (by kernel_rfl) (by kernel_rfl) rfl
theorem bt36 : BT Tryz.prog 36 [.slice none 0 0] [(0, 1)] := BT.of (z := .agg #[.slice none 0 0]) (by kernel_rfl) (by kernel_rfl) rfl (fun w => by kernel_rfl)
theorem fn134 : FN Tryz.prog 134 := FN.of Tryz.func134 (by kernel_rfl) (by kernel_rfl)
theorem fn135 : FN Tryz.prog 135 := FN.of Tryz.func135 (by kernel_rfl) (by kernel_rfl)
theorem sll37 : SlLit Tryz.prog 37 123 4 [.string ⟨#[]⟩, .string ⟨#[]⟩, .string ⟨#[]⟩, .bool false] := SlLit.of (zv := .agg #[.string ⟨#[]⟩, .string ⟨#[]⟩, .string ⟨#[]⟩, .bool false]) (by kernel_rfl) (by kernel_rfl) (by kernel_rfl) rfl
theorem bt39 : BT Tryz.prog 39 [.slice none 0 0, .slice none 0 0, .slice none 0 0, .int .i64 0] [(0, 1), (1, 1), (2, 1), (3, 1)] := BT.of (z := .agg #[.slice none 0 0, .slice none 0 0, .slice none 0 0, .int .i64 0]) (by kernel_rfl) (by kernel_rfl) rfl (fun w => by kernel_rfl)
theorem fn63 : FN Tryz.prog 63 := FN.of Tryz.func63 (by kernel_rfl) (by kernel_rfl)
theorem fn21 : FN Tryz.prog 21 := FN.of Tryz.func21 (by kernel_rfl) (by kernel_rfl)
theorem fn182 : FN Tryz.prog 182 := FN.of Tryz.func182 (by kernel_rfl) (by kernel_rfl)
theorem fn183 : FN Tryz.prog 183 := FN.of Tryz.func183 (by kernel_rfl) (by kernel_rfl)
theorem fn90 : FN Tryz.prog 90 := FN.of Tryz.func90 (by kernel_rfl) (by kernel_rfl)
theorem fn275 : FN Tryz.prog 275 := FN.of Tryz.func275 (by kernel_rfl) (by kernel_rfl)
theorem fn115 : FN Tryz.prog 115 := FN.of Tryz.func115 (by kernel_rfl) (by kernel_rfl)
theorem fn255 : FN Tryz.prog 255 := FN.of Tryz.func255 (by kernel_rfl) (by kernel_rfl)
theorem fn256 : FN Tryz.prog 256 := FN.of Tryz.func256 (by kernel_rfl) (by kernel_rfl)
theorem fn237 : FN Tryz.prog 237 := FN.of Tryz.func237 (by kernel_rfl) (by kernel_rfl)
theorem fn196 : FN Tryz.prog 196 := FN.of Tryz.func196 (by kernel_rfl) (by kernel_rfl)
theorem fn222 : FN Tryz.prog 222 := FN.of Tryz.func222 (by kernel_rfl) (by kernel_rfl)
theorem fn223 : FN Tryz.prog 223 := FN.of Tryz.func223 (by kernel_rfl) (by kernel_rfl)
theorem szf53 : (Tryz.prog.info? 53).map (·.size) = some 1 := by kernel_rfl
theorem fn198 : FN Tryz.prog 198 := FN.of Tryz.func198 (by kernel_rfl) (by kernel_rfl)
theorem arr239 : Tryz.prog.underlying 239 = some (.array 3 53) := by kernel_rfl
theorem zt239 : ZT Tryz.prog 239 [.slice none 0 0, .slice none 0 0, .slice none 0 0] := ZT.of (z := .agg #[.slice none 0 0, .slice none 0 0, .slice none 0 0]) (by kernel_rfl) rfl
theorem szf239 : (Tryz.prog.info? 239).map (·.size) = some 3 := by kernel_rfl
theorem fn199 : FN Tryz.prog 199 := FN.of Tryz.func199 (by kernel_rfl) (by kernel_rfl)
theorem fn200 : FN Tryz.prog 200 := FN.of Tryz.func200 (by kernel_rfl) (by kernel_rfl)
theorem fn201 : FN Tryz.prog 201 := FN.of Tryz.func201 (by kernel_rfl) (by kernel_rfl)
theorem fn164 : FN Tryz.prog 164 := FN.of Tryz.func164 (by kernel_rfl) (by kernel_rfl)
theorem fn184 : FN Tryz.prog 184 := FN.of Tryz.func184 (by kernel_rfl) (by kernel_rfl)
theorem fn185 : FN Tryz.prog 185 := FN.of Tryz.func185 (by kernel_rfl) (by kernel_rfl)
theorem fn146 : FN Tryz.prog 146 := FN.of Tryz.func146 (by kernel_rfl) (by kernel_rfl)
theorem fn98 : FN Tryz.prog 98 := FN.of Tryz.func98 (by kernel_rfl) (by kernel_rfl)
theorem fn156 : FN Tryz.prog 156 := FN.of Tryz.func156 (by kernel_rfl) (by kernel_rfl)
theorem fn145 : FN Tryz.prog 145 := FN.of Tryz.func145 (by kernel_rfl) (by kernel_rfl)
theorem fn143 : FN Tryz.prog 143 := FN.of Tryz.func143 (by kernel_rfl) (by kernel_rfl)
theorem fn189 : FN Tryz.prog 189 := FN.of Tryz.func189 (by kernel_rfl) (by kernel_rfl)
theorem fn72 : FN Tryz.prog 72 := FN.of Tryz.func72 (by kernel_rfl) (by kernel_rfl)
theorem fn157 : FN Tryz.prog 157 := FN.of Tryz.func157 (by kernel_rfl) (by kernel_rfl)
theorem fn88 : FN Tryz.prog 88 := FN.of Tryz.func88 (by kernel_rfl) (by kernel_rfl)
theorem fn89 : FN Tryz.prog 89 := FN.of Tryz.func89 (by kernel_rfl) (by kernel_rfl)
theorem fn141 : FN Tryz.prog 141 := FN.of Tryz.func141 (by kernel_rfl) (by kernel_rfl)
theorem fn142 : FN Tryz.prog 142 := FN.of Tryz.func142 (by kernel_rfl) (by kernel_rfl)
theorem fn71 : FN Tryz.prog 71 := FN.of Tryz.func71 (by kernel_rfl) (by kernel_rfl)
theorem fn22 : FN Tryz.prog 22 := FN.of Tryz.func22 (by kernel_rfl) (by kernel_rfl)
theorem agg28 : Agg Tryz.prog 28 4 := Agg.of (by kernel_rfl) (by kernel_rfl)
theorem fn11 : FN Tryz.prog 11 := FN.of Tryz.func11 (by kernel_rfl) (by kernel_rfl)
theorem fn14 : FN Tryz.prog 14 := FN.of Tryz.func14 (by kernel_rfl) (by kernel_rfl)
theorem fn58 : FN Tryz.prog 58 := FN.of Tryz.func58 (by kernel_rfl) (by kernel_rfl)
theorem fn59 : FN Tryz.prog 59 := FN.of Tryz.func59 (by kernel_rfl) (by kernel_rfl)
theorem fn17 : FN Tryz.prog 17 := FN.of Tryz.func17 (by kernel_rfl) (by kernel_rfl)
theorem fn19 : FN Tryz.prog 19 := FN.of Tryz.func19 (by kernel_rfl) (by kernel_rfl)
theorem fn20 : FN Tryz.prog 20 := FN.of Tryz.func20 (by kernel_rfl) (by kernel_rfl)

end Go.Sw
