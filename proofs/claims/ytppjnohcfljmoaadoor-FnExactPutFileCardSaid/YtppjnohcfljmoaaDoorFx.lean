/- Facts on the types and functions of this translation, each closed. No conditions. -/
import Derived.Test.YtppjnohcfljmoaaDoorRows
import Derived.Test.YtppjnohcfljmoaaDoorLibX
import Derived.Test.YtppjnohcfljmoaaDoorSh
import Derived.WalkSpells
namespace Go.Sw
open Go Go.RowKit Go.Proofs

theorem fa27_2 : FA Tryd.prog 27 2 2 := FA.of (T := 9) (k := 0) (by kernel_rfl) (by kernel_rfl)
theorem sca9 : Sca Tryd.prog 9 := Sca.of (by kernel_rfl) (by kernel_rfl)
theorem str9 : Tryd.prog.underlying 9 = some .string := by kernel_rfl
theorem fa27_5 : FA Tryd.prog 27 5 5 := FA.of (T := 9) (k := 0) (by kernel_rfl) (by kernel_rfl)
theorem fa75_0 : FA Tryd.prog 75 0 0 := FA.of (T := 9) (k := 0) (by kernel_rfl) (by kernel_rfl)
theorem fa75_1 : FA Tryd.prog 75 1 1 := FA.of (T := 27) (k := 5) (by kernel_rfl) (by kernel_rfl)
theorem agg27 : Agg Tryd.prog 27 6 := Agg.of (by kernel_rfl) (by kernel_rfl)
theorem fn9 : FN Tryd.prog 9 := FN.of Tryd.func9 (by kernel_rfl) (by kernel_rfl)
theorem slu45 : Tryd.prog.underlying 45 = some (.slice 75) := by kernel_rfl
theorem slt45 : SlT Tryd.prog 45 75 7 := ⟨by kernel_rfl, by kernel_rfl⟩
theorem agg75 : Agg Tryd.prog 75 7 := Agg.of (by kernel_rfl) (by kernel_rfl)
theorem fn55 : FN Tryd.prog 55 := FN.of Tryd.func55 (by kernel_rfl) (by kernel_rfl)
theorem fa47_0 : FA Tryd.prog 47 0 0 := FA.of (T := 9) (k := 0) (by kernel_rfl) (by kernel_rfl)
theorem fa47_1 : FA Tryd.prog 47 1 1 := FA.of (T := 45) (k := 0) (by kernel_rfl) (by kernel_rfl)
theorem sca45 : Sca Tryd.prog 45 := Sca.of (by kernel_rfl) (by kernel_rfl)
theorem fn41 : FN Tryd.prog 41 := FN.of Tryd.func41 (by kernel_rfl) (by kernel_rfl)
theorem slu23 : Tryd.prog.underlying 23 = some (.slice 47) := by kernel_rfl
theorem slt23 : SlT Tryd.prog 23 47 2 := ⟨by kernel_rfl, by kernel_rfl⟩
theorem agg47 : Agg Tryd.prog 47 2 := Agg.of (by kernel_rfl) (by kernel_rfl)
theorem fn22 : FN Tryd.prog 22 := FN.of Tryd.func22 (by kernel_rfl) (by kernel_rfl)
theorem fa25_0 : FA Tryd.prog 25 0 0 := FA.of (T := 9) (k := 0) (by kernel_rfl) (by kernel_rfl)
theorem fa25_1 : FA Tryd.prog 25 1 1 := FA.of (T := 9) (k := 0) (by kernel_rfl) (by kernel_rfl)
theorem sll31 : SlLit Tryd.prog 31 52 2 [.string ⟨#[]⟩, .slice none 0 0] := SlLit.of (zv := .agg #[.string ⟨#[]⟩, .slice none 0 0]) (by kernel_rfl) (by kernel_rfl) (by kernel_rfl) rfl
theorem slu31 : Tryd.prog.underlying 31 = some (.slice 52) := by kernel_rfl
theorem mixed : Tryd.prog.follows .mixedOrders = true := by kernel_rfl
theorem slt31 : SlT Tryd.prog 31 52 2 := ⟨by kernel_rfl, by kernel_rfl⟩
theorem fa52_0 : FA Tryd.prog 52 0 0 := FA.of (T := 9) (k := 0) (by kernel_rfl) (by kernel_rfl)
theorem fa52_1 : FA Tryd.prog 52 1 1 := FA.of (T := 50) (k := 0) (by kernel_rfl) (by kernel_rfl)
theorem sca50 : Sca Tryd.prog 50 := Sca.of (by kernel_rfl) (by kernel_rfl)
theorem sll50 : SlLit Tryd.prog 50 55 7 [.string ⟨#[]⟩, .int .i64 0, .int .i64 0, .string ⟨#[]⟩, .int .i64 0, .bool false, .string ⟨#[]⟩] := SlLit.of (zv := .agg #[.string ⟨#[]⟩, .int .i64 0, .int .i64 0, .string ⟨#[]⟩, .int .i64 0, .bool false, .string ⟨#[]⟩]) (by kernel_rfl) (by kernel_rfl) (by kernel_rfl) rfl
theorem elt50 : ElT Tryd.prog 50 55 (⟨[], ⟨0, 0, [], 0, false, []⟩⟩ : TFile) 80 := ElT.of (zv := .agg #[.string ⟨#[]⟩, .int .i64 0, .int .i64 0, .string ⟨#[]⟩, .int .i64 0, .bool false, .string ⟨#[]⟩]) (by kernel_rfl) (by kernel_rfl) rfl (fun w => own_flat (TFile.zok w))
theorem bt52 : BT Tryd.prog 52 [.string ⟨#[]⟩, .slice none 0 0] [(0, 1), (1, 1)] := BT.of (z := .agg #[.string ⟨#[]⟩, .slice none 0 0]) (by kernel_rfl) (by kernel_rfl) rfl (fun w => by kernel_rfl)
theorem elt31 : ElT Tryd.prog 31 52 (⟨[], ⟨[], none, 0⟩⟩ : PServer) 40 := ElT.of (zv := .agg #[.string ⟨#[]⟩, .slice none 0 0]) (by kernel_rfl) (by kernel_rfl) rfl (fun w => PServer.zown w)
theorem slu50 : Tryd.prog.underlying 50 = some (.slice 55) := by kernel_rfl
theorem slt50 : SlT Tryd.prog 50 55 7 := ⟨by kernel_rfl, by kernel_rfl⟩
theorem fa55_0 : FA Tryd.prog 55 0 0 := FA.of (T := 9) (k := 0) (by kernel_rfl) (by kernel_rfl)
theorem fn56 : FN Tryd.prog 56 := FN.of Tryd.func56 (by kernel_rfl) (by kernel_rfl)
theorem sll77 : SlLit Tryd.prog 77 9 1 [.string ⟨#[]⟩] := SlLit.of (zv := .string ⟨#[]⟩) (by kernel_rfl) (by kernel_rfl) (by kernel_rfl) rfl
theorem elt77 : ElT Tryd.prog 77 9 ([] : Str) 16 := ElT.of (zv := .string ⟨#[]⟩) (by kernel_rfl) (by kernel_rfl) rfl (fun w => own_flat (Nat.zero_le _))
theorem slu77 : Tryd.prog.underlying 77 = some (.slice 9) := by kernel_rfl
theorem slt77 : SlT Tryd.prog 77 9 1 := ⟨by kernel_rfl, by kernel_rfl⟩
theorem fn42 : FN Tryd.prog 42 := FN.of Tryd.func42 (by kernel_rfl) (by kernel_rfl)
theorem fa79_0 : FA Tryd.prog 79 0 0 := FA.of (T := 4) (k := 0) (by kernel_rfl) (by kernel_rfl)
theorem sca4 : Sca Tryd.prog 4 := Sca.of (by kernel_rfl) (by kernel_rfl)
theorem fa79_1 : FA Tryd.prog 79 1 1 := FA.of (T := 77) (k := 0) (by kernel_rfl) (by kernel_rfl)
theorem sca77 : Sca Tryd.prog 77 := Sca.of (by kernel_rfl) (by kernel_rfl)
theorem fa79_2 : FA Tryd.prog 79 2 2 := FA.of (T := 77) (k := 0) (by kernel_rfl) (by kernel_rfl)
theorem fa79_3 : FA Tryd.prog 79 3 3 := FA.of (T := 77) (k := 0) (by kernel_rfl) (by kernel_rfl)
theorem fa79_4 : FA Tryd.prog 79 4 4 := FA.of (T := 9) (k := 0) (by kernel_rfl) (by kernel_rfl)
theorem fn85 : FN Tryd.prog 85 := FN.of Tryd.func85 (by kernel_rfl) (by kernel_rfl)
theorem fn86 : FN Tryd.prog 86 := FN.of Tryd.func86 (by kernel_rfl) (by kernel_rfl)
theorem agg79 : Agg Tryd.prog 79 5 := Agg.of (by kernel_rfl) (by kernel_rfl)
theorem fn74 : FN Tryd.prog 74 := FN.of Tryd.func74 (by kernel_rfl) (by kernel_rfl)
theorem fn75 : FN Tryd.prog 75 := FN.of Tryd.func75 (by kernel_rfl) (by kernel_rfl)
theorem zt79 : ZT Tryd.prog 79 [.bool false, .slice none 0 0, .slice none 0 0, .slice none 0 0, .string ⟨#[]⟩] := ZT.of (z := .agg #[.bool false, .slice none 0 0, .slice none 0 0, .slice none 0 0, .string ⟨#[]⟩]) (by kernel_rfl) rfl
theorem bt79 : BT Tryd.prog 79 [.bool false, .slice none 0 0, .slice none 0 0, .slice none 0 0, .string ⟨#[]⟩] [(0, 1), (1, 1), (2, 1), (3, 1), (4, 1)] := BT.of (z := .agg #[.bool false, .slice none 0 0, .slice none 0 0, .slice none 0 0, .string ⟨#[]⟩]) (by kernel_rfl) (by kernel_rfl) rfl (fun w => by kernel_rfl)
theorem szf79 : (Tryd.prog.info? 79).map (·.size) = some 5 := by kernel_rfl
theorem fn63 : FN Tryd.prog 63 := FN.of Tryd.func63 (by kernel_rfl) (by kernel_rfl)
theorem szf9 : (Tryd.prog.info? 9).map (·.size) = some 1 := by kernel_rfl
theorem fn64 : FN Tryd.prog 64 := FN.of Tryd.func64 (by kernel_rfl) (by kernel_rfl)
theorem fa37_5 : FA Tryd.prog 37 5 5 := FA.of (T := 9) (k := 0) (by kernel_rfl) (by kernel_rfl)
theorem fn57 : FN Tryd.prog 57 := FN.of Tryd.func57 (by kernel_rfl) (by kernel_rfl)
theorem fa37_0 : FA Tryd.prog 37 0 0 := FA.of (T := 3) (k := 0) (by kernel_rfl) (by kernel_rfl)
theorem sca3 : Sca Tryd.prog 3 := Sca.of (by kernel_rfl) (by kernel_rfl)
theorem fa37_1 : FA Tryd.prog 37 1 1 := FA.of (T := 3) (k := 0) (by kernel_rfl) (by kernel_rfl)
theorem fa37_2 : FA Tryd.prog 37 2 2 := FA.of (T := 9) (k := 0) (by kernel_rfl) (by kernel_rfl)
theorem fa37_3 : FA Tryd.prog 37 3 3 := FA.of (T := 3) (k := 0) (by kernel_rfl) (by kernel_rfl)
theorem fa55_1 : FA Tryd.prog 55 1 1 := FA.of (T := 37) (k := 5) (by kernel_rfl) (by kernel_rfl)
theorem agg37 : Agg Tryd.prog 37 6 := Agg.of (by kernel_rfl) (by kernel_rfl)
theorem fn43 : FN Tryd.prog 43 := FN.of Tryd.func43 (by kernel_rfl) (by kernel_rfl)
theorem fn23 : FN Tryd.prog 23 := FN.of Tryd.func23 (by kernel_rfl) (by kernel_rfl)
theorem fa35_0 : FA Tryd.prog 35 0 0 := FA.of (T := 9) (k := 0) (by kernel_rfl) (by kernel_rfl)
theorem fn24 : FN Tryd.prog 24 := FN.of Tryd.func24 (by kernel_rfl) (by kernel_rfl)
theorem agg52 : Agg Tryd.prog 52 2 := Agg.of (by kernel_rfl) (by kernel_rfl)
theorem fa35_1 : FA Tryd.prog 35 1 1 := FA.of (T := 9) (k := 0) (by kernel_rfl) (by kernel_rfl)
theorem fn25 : FN Tryd.prog 25 := FN.of Tryd.func25 (by kernel_rfl) (by kernel_rfl)
theorem szf37 : (Tryd.prog.info? 37).map (·.size) = some 6 := by kernel_rfl
theorem fn26 : FN Tryd.prog 26 := FN.of Tryd.func26 (by kernel_rfl) (by kernel_rfl)
theorem bt55 : BT Tryd.prog 55 [.string ⟨#[]⟩, .int .i64 0, .int .i64 0, .string ⟨#[]⟩, .int .i64 0, .bool false, .string ⟨#[]⟩] [(0, 1), (1, 6)] := BT.of (z := .agg #[.string ⟨#[]⟩, .int .i64 0, .int .i64 0, .string ⟨#[]⟩, .int .i64 0, .bool false, .string ⟨#[]⟩]) (by kernel_rfl) (by kernel_rfl) rfl (fun w => by kernel_rfl)
theorem szf50 : (Tryd.prog.info? 50).map (·.size) = some 1 := by kernel_rfl
theorem zt37 : ZT Tryd.prog 37 [.int .i64 0, .int .i64 0, .string ⟨#[]⟩, .int .i64 0, .bool false, .string ⟨#[]⟩] := ZT.of (z := .agg #[.int .i64 0, .int .i64 0, .string ⟨#[]⟩, .int .i64 0, .bool false, .string ⟨#[]⟩]) (by kernel_rfl) rfl
theorem fa27_0 : FA Tryd.prog 27 0 0 := FA.of (T := 3) (k := 0) (by kernel_rfl) (by kernel_rfl)
theorem szf3 : (Tryd.prog.info? 3).map (·.size) = some 1 := by kernel_rfl
theorem fa27_1 : FA Tryd.prog 27 1 1 := FA.of (T := 3) (k := 0) (by kernel_rfl) (by kernel_rfl)
theorem fa27_3 : FA Tryd.prog 27 3 3 := FA.of (T := 3) (k := 0) (by kernel_rfl) (by kernel_rfl)
theorem fa27_4 : FA Tryd.prog 27 4 4 := FA.of (T := 4) (k := 0) (by kernel_rfl) (by kernel_rfl)
theorem fa37_4 : FA Tryd.prog 37 4 4 := FA.of (T := 4) (k := 0) (by kernel_rfl) (by kernel_rfl)
theorem szf4 : (Tryd.prog.info? 4).map (·.size) = some 1 := by kernel_rfl
theorem zt55 : ZT Tryd.prog 55 [.string ⟨#[]⟩, .int .i64 0, .int .i64 0, .string ⟨#[]⟩, .int .i64 0, .bool false, .string ⟨#[]⟩] := ZT.of (z := .agg #[.string ⟨#[]⟩, .int .i64 0, .int .i64 0, .string ⟨#[]⟩, .int .i64 0, .bool false, .string ⟨#[]⟩]) (by kernel_rfl) rfl
theorem fn13 : FN Tryd.prog 13 := FN.of Tryd.func13 (by kernel_rfl) (by kernel_rfl)
theorem agg55 : Agg Tryd.prog 55 7 := Agg.of (by kernel_rfl) (by kernel_rfl)
theorem szf55 : (Tryd.prog.info? 55).map (·.size) = some 7 := by kernel_rfl
theorem fn58 : FN Tryd.prog 58 := FN.of Tryd.func58 (by kernel_rfl) (by kernel_rfl)
theorem zt52 : ZT Tryd.prog 52 [.string ⟨#[]⟩, .slice none 0 0] := ZT.of (z := .agg #[.string ⟨#[]⟩, .slice none 0 0]) (by kernel_rfl) rfl
theorem fn44 : FN Tryd.prog 44 := FN.of Tryd.func44 (by kernel_rfl) (by kernel_rfl)
theorem szf52 : (Tryd.prog.info? 52).map (·.size) = some 2 := by kernel_rfl
theorem fn27 : FN Tryd.prog 27 := FN.of Tryd.func27 (by kernel_rfl) (by kernel_rfl)
theorem zt35 : ZT Tryd.prog 35 [.string ⟨#[]⟩, .string ⟨#[]⟩] := ZT.of (z := .agg #[.string ⟨#[]⟩, .string ⟨#[]⟩]) (by kernel_rfl) rfl
theorem agg35 : Agg Tryd.prog 35 2 := Agg.of (by kernel_rfl) (by kernel_rfl)
theorem szf35 : (Tryd.prog.info? 35).map (·.size) = some 2 := by kernel_rfl
theorem fn45 : FN Tryd.prog 45 := FN.of Tryd.func45 (by kernel_rfl) (by kernel_rfl)
theorem fn46 : FN Tryd.prog 46 := FN.of Tryd.func46 (by kernel_rfl) (by kernel_rfl)
theorem fn47 : FN Tryd.prog 47 := FN.of Tryd.func47 (by kernel_rfl) (by kernel_rfl)
theorem fn48 : FN Tryd.prog 48 := FN.of Tryd.func48 (by kernel_rfl) (by kernel_rfl)
theorem fn59 : FN Tryd.prog 59 := FN.of Tryd.func59 (by kernel_rfl) (by kernel_rfl)
theorem fn111 : FN Tryd.prog 111 := FN.of Tryd.func111 (by kernel_rfl) (by kernel_rfl)
theorem fn49 : FN Tryd.prog 49 := FN.of Tryd.func49 (by kernel_rfl) (by kernel_rfl)
theorem fn102 : FN Tryd.prog 102 := FN.of Tryd.func102 (by kernel_rfl) (by kernel_rfl)
theorem fn103 : FN Tryd.prog 103 := FN.of Tryd.func103 (by kernel_rfl) (by kernel_rfl)
theorem fn91 : FN Tryd.prog 91 := FN.of Tryd.func91 (by kernel_rfl) (by kernel_rfl)
theorem fn92 : FN Tryd.prog 92 := FN.of Tryd.func92 (by kernel_rfl) (by kernel_rfl)
theorem fn78 : FN Tryd.prog 78 := FN.of Tryd.func78 (by kernel_rfl) (by kernel_rfl)
theorem fn79 : FN Tryd.prog 79 := FN.of Tryd.func79 (by kernel_rfl) (by kernel_rfl)
theorem szf77 : (Tryd.prog.info? 77).map (·.size) = some 1 := by kernel_rfl
theorem fn65 : FN Tryd.prog 65 := FN.of Tryd.func65 (by kernel_rfl) (by kernel_rfl)
theorem arr88 : Tryd.prog.underlying 88 = some (.array 3 77) := by kernel_rfl
theorem zt88 : ZT Tryd.prog 88 [.slice none 0 0, .slice none 0 0, .slice none 0 0] := ZT.of (z := .agg #[.slice none 0 0, .slice none 0 0, .slice none 0 0]) (by kernel_rfl) rfl
theorem szf88 : (Tryd.prog.info? 88).map (·.size) = some 3 := by kernel_rfl
theorem fn66 : FN Tryd.prog 66 := FN.of Tryd.func66 (by kernel_rfl) (by kernel_rfl)
theorem fn67 : FN Tryd.prog 67 := FN.of Tryd.func67 (by kernel_rfl) (by kernel_rfl)
theorem fn68 : FN Tryd.prog 68 := FN.of Tryd.func68 (by kernel_rfl) (by kernel_rfl)
theorem fn60 : FN Tryd.prog 60 := FN.of Tryd.func60 (by kernel_rfl) (by kernel_rfl)
theorem fn30 : FN Tryd.prog 30 := FN.of Tryd.func30 (by kernel_rfl) (by kernel_rfl)
theorem fn50 : FN Tryd.prog 50 := FN.of Tryd.func50 (by kernel_rfl) (by kernel_rfl)
theorem fn28 : FN Tryd.prog 28 := FN.of Tryd.func28 (by kernel_rfl) (by kernel_rfl)
theorem fn29 : FN Tryd.prog 29 := FN.of Tryd.func29 (by kernel_rfl) (by kernel_rfl)
theorem fn31 : FN Tryd.prog 31 := FN.of Tryd.func31 (by kernel_rfl) (by kernel_rfl)
theorem bool4 : Tryd.prog.underlying 4 = some .bool := by kernel_rfl
theorem fn69 : FN Tryd.prog 69 := FN.of Tryd.func69 (by kernel_rfl) (by kernel_rfl)
theorem fn61 : FN Tryd.prog 61 := FN.of Tryd.func61 (by kernel_rfl) (by kernel_rfl)
theorem fn51 : FN Tryd.prog 51 := FN.of Tryd.func51 (by kernel_rfl) (by kernel_rfl)
theorem fn32 : FN Tryd.prog 32 := FN.of Tryd.func32 (by kernel_rfl) (by kernel_rfl)
theorem u8t5 : Tryd.prog.underlying 5 = some (.int .u8) := by kernel_rfl
theorem sll60 : SlLit Tryd.prog 60 5 1 [.int .u8 0] := SlLit.of (zv := .int .u8 0) (by kernel_rfl) (by kernel_rfl) (by kernel_rfl) rfl
theorem slu60 : Tryd.prog.underlying 60 = some (.slice 5) := by kernel_rfl
theorem fn33 : FN Tryd.prog 33 := FN.of Tryd.func33 (by kernel_rfl) (by kernel_rfl)
theorem fn34 : FN Tryd.prog 34 := FN.of Tryd.func34 (by kernel_rfl) (by kernel_rfl)
theorem fn35 : FN Tryd.prog 35 := FN.of Tryd.func35 (by kernel_rfl) (by kernel_rfl)
theorem fn7 : FN Tryd.prog 7 := FN.of Tryd.func7 (by kernel_rfl) (by kernel_rfl)
theorem agg25 : Agg Tryd.prog 25 2 := Agg.of (by kernel_rfl) (by kernel_rfl)
theorem fn8 : FN Tryd.prog 8 := FN.of Tryd.func8 (by kernel_rfl) (by kernel_rfl)
theorem fn11 : FN Tryd.prog 11 := FN.of Tryd.func11 (by kernel_rfl) (by kernel_rfl)
theorem fn12 : FN Tryd.prog 12 := FN.of Tryd.func12 (by kernel_rfl) (by kernel_rfl)
theorem fn10 : FN Tryd.prog 10 := FN.of Tryd.func10 (by kernel_rfl) (by kernel_rfl)
theorem fn14 : FN Tryd.prog 14 := FN.of Tryd.func14 (by kernel_rfl) (by kernel_rfl)
theorem fn15 : FN Tryd.prog 15 := FN.of Tryd.func15 (by kernel_rfl) (by kernel_rfl)
theorem fn16 : FN Tryd.prog 16 := FN.of Tryd.func16 (by kernel_rfl) (by kernel_rfl)
theorem fn17 : FN Tryd.prog 17 := FN.of Tryd.func17 (by kernel_rfl) (by kernel_rfl)

end Go.Sw
