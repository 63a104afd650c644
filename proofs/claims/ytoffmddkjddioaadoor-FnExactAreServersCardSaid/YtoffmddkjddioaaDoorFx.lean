/- Facts on the types and functions of this translation, each closed. No conditions. -/
import Derived.Test.YtoffmddkjddioaaDoorRows
import Derived.Test.YtoffmddkjddioaaDoorLibY
import Derived.Test.YtoffmddkjddioaaDoorSh
import Derived.WalkSpells
namespace Go.Sw
open Go Go.RowKit Go.Proofs

theorem fa29_2 : FA Tryd.prog 29 2 2 := FA.of (T := 9) (k := 0) (by kernel_rfl) (by kernel_rfl)
theorem sca9 : Sca Tryd.prog 9 := Sca.of (by kernel_rfl) (by kernel_rfl)
theorem str9 : Tryd.prog.underlying 9 = some .string := by kernel_rfl
theorem fa29_5 : FA Tryd.prog 29 5 5 := FA.of (T := 9) (k := 0) (by kernel_rfl) (by kernel_rfl)
theorem fa126_0 : FA Tryd.prog 126 0 0 := FA.of (T := 9) (k := 0) (by kernel_rfl) (by kernel_rfl)
theorem fa126_1 : FA Tryd.prog 126 1 1 := FA.of (T := 29) (k := 5) (by kernel_rfl) (by kernel_rfl)
theorem agg29 : Agg Tryd.prog 29 6 := Agg.of (by kernel_rfl) (by kernel_rfl)
theorem fn16 : FN Tryd.prog 16 := FN.of Tryd.func16 (by kernel_rfl) (by kernel_rfl)
theorem slu42 : Tryd.prog.underlying 42 = some (.slice 126) := by kernel_rfl
theorem slt42 : SlT Tryd.prog 42 126 7 := ⟨by kernel_rfl, by kernel_rfl⟩
theorem agg126 : Agg Tryd.prog 126 7 := Agg.of (by kernel_rfl) (by kernel_rfl)
theorem fn98 : FN Tryd.prog 98 := FN.of Tryd.func98 (by kernel_rfl) (by kernel_rfl)
theorem fa44_0 : FA Tryd.prog 44 0 0 := FA.of (T := 9) (k := 0) (by kernel_rfl) (by kernel_rfl)
theorem fa44_1 : FA Tryd.prog 44 1 1 := FA.of (T := 42) (k := 0) (by kernel_rfl) (by kernel_rfl)
theorem sca42 : Sca Tryd.prog 42 := Sca.of (by kernel_rfl) (by kernel_rfl)
theorem fn65 : FN Tryd.prog 65 := FN.of Tryd.func65 (by kernel_rfl) (by kernel_rfl)
theorem slu64 : Tryd.prog.underlying 64 = some (.slice 44) := by kernel_rfl
theorem slt64 : SlT Tryd.prog 64 44 2 := ⟨by kernel_rfl, by kernel_rfl⟩
theorem agg44 : Agg Tryd.prog 44 2 := Agg.of (by kernel_rfl) (by kernel_rfl)
theorem fn25 : FN Tryd.prog 25 := FN.of Tryd.func25 (by kernel_rfl) (by kernel_rfl)
theorem sll35 : SlLit Tryd.prog 35 9 1 [.string ⟨#[]⟩] := SlLit.of (zv := .string ⟨#[]⟩) (by kernel_rfl) (by kernel_rfl) (by kernel_rfl) rfl
theorem elt35 : ElT Tryd.prog 35 9 ([] : Str) 16 := ElT.of (zv := .string ⟨#[]⟩) (by kernel_rfl) (by kernel_rfl) rfl (fun w => own_flat (Nat.zero_le _))
theorem fn56 : FN Tryd.prog 56 := FN.of Tryd.func56 (by kernel_rfl) (by kernel_rfl)
theorem slu35 : Tryd.prog.underlying 35 = some (.slice 9) := by kernel_rfl
theorem slt35 : SlT Tryd.prog 35 9 1 := ⟨by kernel_rfl, by kernel_rfl⟩
theorem fn66 : FN Tryd.prog 66 := FN.of Tryd.func66 (by kernel_rfl) (by kernel_rfl)
theorem fa37_0 : FA Tryd.prog 37 0 0 := FA.of (T := 4) (k := 0) (by kernel_rfl) (by kernel_rfl)
theorem sca4 : Sca Tryd.prog 4 := Sca.of (by kernel_rfl) (by kernel_rfl)
theorem fa37_1 : FA Tryd.prog 37 1 1 := FA.of (T := 35) (k := 0) (by kernel_rfl) (by kernel_rfl)
theorem sca35 : Sca Tryd.prog 35 := Sca.of (by kernel_rfl) (by kernel_rfl)
theorem fa37_2 : FA Tryd.prog 37 2 2 := FA.of (T := 35) (k := 0) (by kernel_rfl) (by kernel_rfl)
theorem fa37_3 : FA Tryd.prog 37 3 3 := FA.of (T := 35) (k := 0) (by kernel_rfl) (by kernel_rfl)
theorem fa37_4 : FA Tryd.prog 37 4 4 := FA.of (T := 9) (k := 0) (by kernel_rfl) (by kernel_rfl)
theorem fn114 : FN Tryd.prog 114 := FN.of Tryd.func114 (by kernel_rfl) (by kernel_rfl)
theorem fn115 : FN Tryd.prog 115 := FN.of Tryd.func115 (by kernel_rfl) (by kernel_rfl)
theorem agg37 : Agg Tryd.prog 37 5 := Agg.of (by kernel_rfl) (by kernel_rfl)
theorem fn93 : FN Tryd.prog 93 := FN.of Tryd.func93 (by kernel_rfl) (by kernel_rfl)
theorem mixed : Tryd.prog.follows .mixedOrders = true := by kernel_rfl
theorem fn94 : FN Tryd.prog 94 := FN.of Tryd.func94 (by kernel_rfl) (by kernel_rfl)
theorem zt37 : ZT Tryd.prog 37 [.bool false, .slice none 0 0, .slice none 0 0, .slice none 0 0, .string ⟨#[]⟩] := ZT.of (z := .agg #[.bool false, .slice none 0 0, .slice none 0 0, .slice none 0 0, .string ⟨#[]⟩]) (by kernel_rfl) rfl
theorem bt37 : BT Tryd.prog 37 [.bool false, .slice none 0 0, .slice none 0 0, .slice none 0 0, .string ⟨#[]⟩] [(0, 1), (1, 1), (2, 1), (3, 1), (4, 1)] := BT.of (z := .agg #[.bool false, .slice none 0 0, .slice none 0 0, .slice none 0 0, .string ⟨#[]⟩]) (by kernel_rfl) (by kernel_rfl) rfl (fun w => by kernel_rfl)
theorem szf37 : (Tryd.prog.info? 37).map (·.size) = some 5 := by kernel_rfl
theorem fn50 : FN Tryd.prog 50 := FN.of Tryd.func50 (by kernel_rfl) (by kernel_rfl)
theorem szf9 : (Tryd.prog.info? 9).map (·.size) = some 1 := by kernel_rfl
theorem fn58 : FN Tryd.prog 58 := FN.of Tryd.func58 (by kernel_rfl) (by kernel_rfl)
theorem fa32_5 : FA Tryd.prog 32 5 5 := FA.of (T := 9) (k := 0) (by kernel_rfl) (by kernel_rfl)
theorem fn20 : FN Tryd.prog 20 := FN.of Tryd.func20 (by kernel_rfl) (by kernel_rfl)
theorem fa32_0 : FA Tryd.prog 32 0 0 := FA.of (T := 3) (k := 0) (by kernel_rfl) (by kernel_rfl)
theorem sca3 : Sca Tryd.prog 3 := Sca.of (by kernel_rfl) (by kernel_rfl)
theorem fa32_1 : FA Tryd.prog 32 1 1 := FA.of (T := 3) (k := 0) (by kernel_rfl) (by kernel_rfl)
theorem fa32_2 : FA Tryd.prog 32 2 2 := FA.of (T := 9) (k := 0) (by kernel_rfl) (by kernel_rfl)
theorem fa32_3 : FA Tryd.prog 32 3 3 := FA.of (T := 3) (k := 0) (by kernel_rfl) (by kernel_rfl)
theorem fa49_1 : FA Tryd.prog 49 1 1 := FA.of (T := 47) (k := 0) (by kernel_rfl) (by kernel_rfl)
theorem sca47 : Sca Tryd.prog 47 := Sca.of (by kernel_rfl) (by kernel_rfl)
theorem slu47 : Tryd.prog.underlying 47 = some (.slice 100) := by kernel_rfl
theorem slt47 : SlT Tryd.prog 47 100 7 := ⟨by kernel_rfl, by kernel_rfl⟩
theorem fa100_0 : FA Tryd.prog 100 0 0 := FA.of (T := 9) (k := 0) (by kernel_rfl) (by kernel_rfl)
theorem fa100_1 : FA Tryd.prog 100 1 1 := FA.of (T := 32) (k := 5) (by kernel_rfl) (by kernel_rfl)
theorem agg32 : Agg Tryd.prog 32 6 := Agg.of (by kernel_rfl) (by kernel_rfl)
theorem fn17 : FN Tryd.prog 17 := FN.of Tryd.func17 (by kernel_rfl) (by kernel_rfl)
theorem fa49_0 : FA Tryd.prog 49 0 0 := FA.of (T := 9) (k := 0) (by kernel_rfl) (by kernel_rfl)
theorem slu67 : Tryd.prog.underlying 67 = some (.slice 49) := by kernel_rfl
theorem slt67 : SlT Tryd.prog 67 49 2 := ⟨by kernel_rfl, by kernel_rfl⟩
theorem agg49 : Agg Tryd.prog 49 2 := Agg.of (by kernel_rfl) (by kernel_rfl)
theorem fn26 : FN Tryd.prog 26 := FN.of Tryd.func26 (by kernel_rfl) (by kernel_rfl)
theorem fn78 : FN Tryd.prog 78 := FN.of Tryd.func78 (by kernel_rfl) (by kernel_rfl)
theorem zt32 : ZT Tryd.prog 32 [.int .i64 0, .int .i64 0, .string ⟨#[]⟩, .int .i64 0, .bool false, .string ⟨#[]⟩] := ZT.of (z := .agg #[.int .i64 0, .int .i64 0, .string ⟨#[]⟩, .int .i64 0, .bool false, .string ⟨#[]⟩]) (by kernel_rfl) rfl
theorem fa29_0 : FA Tryd.prog 29 0 0 := FA.of (T := 3) (k := 0) (by kernel_rfl) (by kernel_rfl)
theorem szf3 : (Tryd.prog.info? 3).map (·.size) = some 1 := by kernel_rfl
theorem fa29_1 : FA Tryd.prog 29 1 1 := FA.of (T := 3) (k := 0) (by kernel_rfl) (by kernel_rfl)
theorem fa29_3 : FA Tryd.prog 29 3 3 := FA.of (T := 3) (k := 0) (by kernel_rfl) (by kernel_rfl)
theorem fa29_4 : FA Tryd.prog 29 4 4 := FA.of (T := 4) (k := 0) (by kernel_rfl) (by kernel_rfl)
theorem fa32_4 : FA Tryd.prog 32 4 4 := FA.of (T := 4) (k := 0) (by kernel_rfl) (by kernel_rfl)
theorem szf4 : (Tryd.prog.info? 4).map (·.size) = some 1 := by kernel_rfl
theorem szf32 : (Tryd.prog.info? 32).map (·.size) = some 6 := by kernel_rfl
theorem zt100 : ZT Tryd.prog 100 [.string ⟨#[]⟩, .int .i64 0, .int .i64 0, .string ⟨#[]⟩, .int .i64 0, .bool false, .string ⟨#[]⟩] := ZT.of (z := .agg #[.string ⟨#[]⟩, .int .i64 0, .int .i64 0, .string ⟨#[]⟩, .int .i64 0, .bool false, .string ⟨#[]⟩]) (by kernel_rfl) rfl
theorem fn18 : FN Tryd.prog 18 := FN.of Tryd.func18 (by kernel_rfl) (by kernel_rfl)
theorem agg100 : Agg Tryd.prog 100 7 := Agg.of (by kernel_rfl) (by kernel_rfl)
theorem szf100 : (Tryd.prog.info? 100).map (·.size) = some 7 := by kernel_rfl
theorem elt47 : ElT Tryd.prog 47 100 (⟨[], ⟨0, 0, [], 0, false, []⟩⟩ : TFile) 80 := ElT.of (zv := .agg #[.string ⟨#[]⟩, .int .i64 0, .int .i64 0, .string ⟨#[]⟩, .int .i64 0, .bool false, .string ⟨#[]⟩]) (by kernel_rfl) (by kernel_rfl) rfl (fun w => own_flat (TFile.zok w))
theorem fn99 : FN Tryd.prog 99 := FN.of Tryd.func99 (by kernel_rfl) (by kernel_rfl)
theorem zt49 : ZT Tryd.prog 49 [.string ⟨#[]⟩, .slice none 0 0] := ZT.of (z := .agg #[.string ⟨#[]⟩, .slice none 0 0]) (by kernel_rfl) rfl
theorem fn67 : FN Tryd.prog 67 := FN.of Tryd.func67 (by kernel_rfl) (by kernel_rfl)
theorem szf47 : (Tryd.prog.info? 47).map (·.size) = some 1 := by kernel_rfl
theorem szf49 : (Tryd.prog.info? 49).map (·.size) = some 2 := by kernel_rfl
theorem elt67 : ElT Tryd.prog 67 49 (⟨[], ⟨[], none, 0⟩⟩ : PServer) 40 := ElT.of (zv := .agg #[.string ⟨#[]⟩, .slice none 0 0]) (by kernel_rfl) (by kernel_rfl) rfl (fun w => PServer.zown w)
theorem fn27 : FN Tryd.prog 27 := FN.of Tryd.func27 (by kernel_rfl) (by kernel_rfl)
theorem fn137 : FN Tryd.prog 137 := FN.of Tryd.func137 (by kernel_rfl) (by kernel_rfl)
theorem fn57 : FN Tryd.prog 57 := FN.of Tryd.func57 (by kernel_rfl) (by kernel_rfl)
theorem fn68 : FN Tryd.prog 68 := FN.of Tryd.func68 (by kernel_rfl) (by kernel_rfl)
theorem fn128 : FN Tryd.prog 128 := FN.of Tryd.func128 (by kernel_rfl) (by kernel_rfl)
theorem fn129 : FN Tryd.prog 129 := FN.of Tryd.func129 (by kernel_rfl) (by kernel_rfl)
theorem fn117 : FN Tryd.prog 117 := FN.of Tryd.func117 (by kernel_rfl) (by kernel_rfl)
theorem fn118 : FN Tryd.prog 118 := FN.of Tryd.func118 (by kernel_rfl) (by kernel_rfl)
theorem fn96 : FN Tryd.prog 96 := FN.of Tryd.func96 (by kernel_rfl) (by kernel_rfl)
theorem fn97 : FN Tryd.prog 97 := FN.of Tryd.func97 (by kernel_rfl) (by kernel_rfl)
theorem szf35 : (Tryd.prog.info? 35).map (·.size) = some 1 := by kernel_rfl
theorem fn52 : FN Tryd.prog 52 := FN.of Tryd.func52 (by kernel_rfl) (by kernel_rfl)
theorem arr93 : Tryd.prog.underlying 93 = some (.array 3 35) := by kernel_rfl
theorem zt93 : ZT Tryd.prog 93 [.slice none 0 0, .slice none 0 0, .slice none 0 0] := ZT.of (z := .agg #[.slice none 0 0, .slice none 0 0, .slice none 0 0]) (by kernel_rfl) rfl
theorem szf93 : (Tryd.prog.info? 93).map (·.size) = some 3 := by kernel_rfl
theorem fn59 : FN Tryd.prog 59 := FN.of Tryd.func59 (by kernel_rfl) (by kernel_rfl)
theorem fn60 : FN Tryd.prog 60 := FN.of Tryd.func60 (by kernel_rfl) (by kernel_rfl)
theorem fn61 : FN Tryd.prog 61 := FN.of Tryd.func61 (by kernel_rfl) (by kernel_rfl)
theorem fn21 : FN Tryd.prog 21 := FN.of Tryd.func21 (by kernel_rfl) (by kernel_rfl)
theorem fn100 : FN Tryd.prog 100 := FN.of Tryd.func100 (by kernel_rfl) (by kernel_rfl)
theorem fn101 : FN Tryd.prog 101 := FN.of Tryd.func101 (by kernel_rfl) (by kernel_rfl)
theorem fn69 : FN Tryd.prog 69 := FN.of Tryd.func69 (by kernel_rfl) (by kernel_rfl)
theorem fn19 : FN Tryd.prog 19 := FN.of Tryd.func19 (by kernel_rfl) (by kernel_rfl)
theorem fn108 : FN Tryd.prog 108 := FN.of Tryd.func108 (by kernel_rfl) (by kernel_rfl)
theorem fn109 : FN Tryd.prog 109 := FN.of Tryd.func109 (by kernel_rfl) (by kernel_rfl)
theorem fn28 : FN Tryd.prog 28 := FN.of Tryd.func28 (by kernel_rfl) (by kernel_rfl)
theorem fn79 : FN Tryd.prog 79 := FN.of Tryd.func79 (by kernel_rfl) (by kernel_rfl)
theorem bool4 : Tryd.prog.underlying 4 = some .bool := by kernel_rfl
theorem fn122 : FN Tryd.prog 122 := FN.of Tryd.func122 (by kernel_rfl) (by kernel_rfl)
theorem fn102 : FN Tryd.prog 102 := FN.of Tryd.func102 (by kernel_rfl) (by kernel_rfl)
theorem fn70 : FN Tryd.prog 70 := FN.of Tryd.func70 (by kernel_rfl) (by kernel_rfl)
theorem fn29 : FN Tryd.prog 29 := FN.of Tryd.func29 (by kernel_rfl) (by kernel_rfl)
theorem fn35 : FN Tryd.prog 35 := FN.of Tryd.func35 (by kernel_rfl) (by kernel_rfl)
theorem fn37 : FN Tryd.prog 37 := FN.of Tryd.func37 (by kernel_rfl) (by kernel_rfl)
theorem fn36 : FN Tryd.prog 36 := FN.of Tryd.func36 (by kernel_rfl) (by kernel_rfl)
theorem fn38 : FN Tryd.prog 38 := FN.of Tryd.func38 (by kernel_rfl) (by kernel_rfl)
theorem fn39 : FN Tryd.prog 39 := FN.of Tryd.func39 (by kernel_rfl) (by kernel_rfl)

end Go.Sw
