/- Facts on the types and functions of this translation, each closed. No conditions. -/
import Derived.Test.YthlbohgfikckfaaRows
import Derived.Test.YthlbohgfikckfaaLibP
import Derived.WalkSpells
namespace Go.Sw
open Go Go.RowKit Go.Proofs

theorem fa127_0 : FA Try.prog 127 0 0 := FA.of (T := 9) (k := 0) (by kernel_rfl) (by kernel_rfl)
theorem sca9 : Sca Try.prog 9 := Sca.of (by kernel_rfl) (by kernel_rfl)
theorem str9 : Try.prog.underlying 9 = some .string := by kernel_rfl
theorem fa127_1 : FA Try.prog 127 1 1 := FA.of (T := 9) (k := 0) (by kernel_rfl) (by kernel_rfl)
theorem slu92 : Try.prog.underlying 92 = some (.slice 127) := by kernel_rfl
theorem slt92 : SlT Try.prog 92 127 2 := ⟨by kernel_rfl, by kernel_rfl⟩
theorem agg127 : Agg Try.prog 127 2 := Agg.of (by kernel_rfl) (by kernel_rfl)
theorem fn79 : FN Try.prog 79 := FN.of Try.func79 (by kernel_rfl) (by kernel_rfl)
theorem fa94_1 : FA Try.prog 94 1 1 := FA.of (T := 9) (k := 0) (by kernel_rfl) (by kernel_rfl)
theorem fa94_2 : FA Try.prog 94 2 2 := FA.of (T := 92) (k := 0) (by kernel_rfl) (by kernel_rfl)
theorem sca92 : Sca Try.prog 92 := Sca.of (by kernel_rfl) (by kernel_rfl)
theorem fn73 : FN Try.prog 73 := FN.of Try.func73 (by kernel_rfl) (by kernel_rfl)
theorem fa94_3 : FA Try.prog 94 3 3 := FA.of (T := 9) (k := 0) (by kernel_rfl) (by kernel_rfl)
theorem slu29 : Try.prog.underlying 29 = some (.slice 94) := by kernel_rfl
theorem slt29 : SlT Try.prog 29 94 4 := ⟨by kernel_rfl, by kernel_rfl⟩
theorem agg94 : Agg Try.prog 94 4 := Agg.of (by kernel_rfl) (by kernel_rfl)
theorem fn50 : FN Try.prog 50 := FN.of Try.func50 (by kernel_rfl) (by kernel_rfl)
theorem fa28_0 : FA Try.prog 28 0 0 := FA.of (T := 9) (k := 0) (by kernel_rfl) (by kernel_rfl)
theorem fa123_0 : FA Try.prog 123 0 0 := FA.of (T := 9) (k := 0) (by kernel_rfl) (by kernel_rfl)
theorem fa123_1 : FA Try.prog 123 1 1 := FA.of (T := 9) (k := 0) (by kernel_rfl) (by kernel_rfl)
theorem fa123_3 : FA Try.prog 123 3 3 := FA.of (T := 92) (k := 0) (by kernel_rfl) (by kernel_rfl)
theorem slu30 : Try.prog.underlying 30 = some (.slice 123) := by kernel_rfl
theorem slt30 : SlT Try.prog 30 123 4 := ⟨by kernel_rfl, by kernel_rfl⟩
theorem agg123 : Agg Try.prog 123 4 := Agg.of (by kernel_rfl) (by kernel_rfl)
theorem fn74 : FN Try.prog 74 := FN.of Try.func74 (by kernel_rfl) (by kernel_rfl)
theorem slu31 : Try.prog.underlying 31 = some (.slice 3) := by kernel_rfl
theorem fa33_0 : FA Try.prog 33 0 0 := FA.of (T := 30) (k := 0) (by kernel_rfl) (by kernel_rfl)
theorem sca30 : Sca Try.prog 30 := Sca.of (by kernel_rfl) (by kernel_rfl)
theorem fn51 : FN Try.prog 51 := FN.of Try.func51 (by kernel_rfl) (by kernel_rfl)
theorem fa33_1 : FA Try.prog 33 1 1 := FA.of (T := 31) (k := 0) (by kernel_rfl) (by kernel_rfl)
theorem sca31 : Sca Try.prog 31 := Sca.of (by kernel_rfl) (by kernel_rfl)
theorem fn52 : FN Try.prog 52 := FN.of Try.func52 (by kernel_rfl) (by kernel_rfl)
theorem fa23_0 : FA Try.prog 23 0 0 := FA.of (T := 9) (k := 0) (by kernel_rfl) (by kernel_rfl)
theorem fa23_1 : FA Try.prog 23 1 1 := FA.of (T := 9) (k := 0) (by kernel_rfl) (by kernel_rfl)
theorem fa99_1 : FA Try.prog 99 1 1 := FA.of (T := 23) (k := 1) (by kernel_rfl) (by kernel_rfl)
theorem agg23 : Agg Try.prog 23 2 := Agg.of (by kernel_rfl) (by kernel_rfl)
theorem fn9 : FN Try.prog 9 := FN.of Try.func9 (by kernel_rfl) (by kernel_rfl)
theorem fa99_2 : FA Try.prog 99 2 3 := FA.of (T := 9) (k := 0) (by kernel_rfl) (by kernel_rfl)
theorem fa99_6 : FA Try.prog 99 6 7 := FA.of (T := 9) (k := 0) (by kernel_rfl) (by kernel_rfl)
theorem slu34 : Try.prog.underlying 34 = some (.slice 99) := by kernel_rfl
theorem slt34 : SlT Try.prog 34 99 8 := ⟨by kernel_rfl, by kernel_rfl⟩
theorem agg99 : Agg Try.prog 99 8 := Agg.of (by kernel_rfl) (by kernel_rfl)
theorem fn53 : FN Try.prog 53 := FN.of Try.func53 (by kernel_rfl) (by kernel_rfl)
theorem fa102_0 : FA Try.prog 102 0 0 := FA.of (T := 23) (k := 1) (by kernel_rfl) (by kernel_rfl)
theorem fa102_3 : FA Try.prog 102 3 4 := FA.of (T := 9) (k := 0) (by kernel_rfl) (by kernel_rfl)
theorem slu35 : Try.prog.underlying 35 = some (.slice 102) := by kernel_rfl
theorem slt35 : SlT Try.prog 35 102 5 := ⟨by kernel_rfl, by kernel_rfl⟩
theorem agg102 : Agg Try.prog 102 5 := Agg.of (by kernel_rfl) (by kernel_rfl)
theorem fn54 : FN Try.prog 54 := FN.of Try.func54 (by kernel_rfl) (by kernel_rfl)
theorem slu36 : Try.prog.underlying 36 = some (.slice 23) := by kernel_rfl
theorem slt36 : SlT Try.prog 36 23 2 := ⟨by kernel_rfl, by kernel_rfl⟩
theorem slu24 : Try.prog.underlying 24 = some (.slice 9) := by kernel_rfl
theorem slt24 : SlT Try.prog 24 9 1 := ⟨by kernel_rfl, by kernel_rfl⟩
theorem fa26_1 : FA Try.prog 26 1 1 := FA.of (T := 24) (k := 0) (by kernel_rfl) (by kernel_rfl)
theorem sca24 : Sca Try.prog 24 := Sca.of (by kernel_rfl) (by kernel_rfl)
theorem fn17 : FN Try.prog 17 := FN.of Try.func17 (by kernel_rfl) (by kernel_rfl)
theorem fa26_2 : FA Try.prog 26 2 2 := FA.of (T := 24) (k := 0) (by kernel_rfl) (by kernel_rfl)
theorem fa26_3 : FA Try.prog 26 3 3 := FA.of (T := 24) (k := 0) (by kernel_rfl) (by kernel_rfl)
theorem fa26_4 : FA Try.prog 26 4 4 := FA.of (T := 9) (k := 0) (by kernel_rfl) (by kernel_rfl)
theorem fa38_0 : FA Try.prog 38 0 0 := FA.of (T := 23) (k := 1) (by kernel_rfl) (by kernel_rfl)
theorem fa38_1 : FA Try.prog 38 1 2 := FA.of (T := 26) (k := 4) (by kernel_rfl) (by kernel_rfl)
theorem agg26 : Agg Try.prog 26 5 := Agg.of (by kernel_rfl) (by kernel_rfl)
theorem fn10 : FN Try.prog 10 := FN.of Try.func10 (by kernel_rfl) (by kernel_rfl)
theorem fa38_2 : FA Try.prog 38 2 7 := FA.of (T := 28) (k := 0) (by kernel_rfl) (by kernel_rfl)
theorem agg28 : Agg Try.prog 28 1 := Agg.of (by kernel_rfl) (by kernel_rfl)
theorem fn11 : FN Try.prog 11 := FN.of Try.func11 (by kernel_rfl) (by kernel_rfl)
theorem fa38_3 : FA Try.prog 38 3 8 := FA.of (T := 29) (k := 0) (by kernel_rfl) (by kernel_rfl)
theorem sca29 : Sca Try.prog 29 := Sca.of (by kernel_rfl) (by kernel_rfl)
theorem fn12 : FN Try.prog 12 := FN.of Try.func12 (by kernel_rfl) (by kernel_rfl)
theorem fa38_5 : FA Try.prog 38 5 10 := FA.of (T := 33) (k := 1) (by kernel_rfl) (by kernel_rfl)
theorem agg33 : Agg Try.prog 33 2 := Agg.of (by kernel_rfl) (by kernel_rfl)
theorem fn13 : FN Try.prog 13 := FN.of Try.func13 (by kernel_rfl) (by kernel_rfl)
theorem fa38_6 : FA Try.prog 38 6 12 := FA.of (T := 34) (k := 0) (by kernel_rfl) (by kernel_rfl)
theorem sca34 : Sca Try.prog 34 := Sca.of (by kernel_rfl) (by kernel_rfl)
theorem fn14 : FN Try.prog 14 := FN.of Try.func14 (by kernel_rfl) (by kernel_rfl)
theorem fa38_7 : FA Try.prog 38 7 13 := FA.of (T := 35) (k := 0) (by kernel_rfl) (by kernel_rfl)
theorem sca35 : Sca Try.prog 35 := Sca.of (by kernel_rfl) (by kernel_rfl)
theorem fn15 : FN Try.prog 15 := FN.of Try.func15 (by kernel_rfl) (by kernel_rfl)
theorem fa38_8 : FA Try.prog 38 8 14 := FA.of (T := 36) (k := 0) (by kernel_rfl) (by kernel_rfl)
theorem sca36 : Sca Try.prog 36 := Sca.of (by kernel_rfl) (by kernel_rfl)
theorem fn16 : FN Try.prog 16 := FN.of Try.func16 (by kernel_rfl) (by kernel_rfl)
theorem fa38_13 : FA Try.prog 38 13 19 := FA.of (T := 36) (k := 0) (by kernel_rfl) (by kernel_rfl)
theorem fa38_14 : FA Try.prog 38 14 20 := FA.of (T := 24) (k := 0) (by kernel_rfl) (by kernel_rfl)
theorem zt109 : ZT Try.prog 109 [.string ⟨#[]⟩, .string ⟨#[]⟩] := ZT.of (z := .agg #[.string ⟨#[]⟩, .string ⟨#[]⟩]) (by kernel_rfl) rfl
theorem fa109_0 : FA Try.prog 109 0 0 := FA.of (T := 9) (k := 0) (by kernel_rfl) (by kernel_rfl)
theorem szf9 : (Try.prog.info? 9).map (·.size) = some 1 := by kernel_rfl
theorem fa109_1 : FA Try.prog 109 1 1 := FA.of (T := 9) (k := 0) (by kernel_rfl) (by kernel_rfl)
theorem agg109 : Agg Try.prog 109 2 := Agg.of (by kernel_rfl) (by kernel_rfl)
theorem szf109 : (Try.prog.info? 109).map (·.size) = some 2 := by kernel_rfl
theorem zt43 : ZT Try.prog 43 [.string ⟨#[]⟩] := ZT.of (z := .agg #[.string ⟨#[]⟩]) (by kernel_rfl) rfl
theorem fa43_0 : FA Try.prog 43 0 0 := FA.of (T := 9) (k := 0) (by kernel_rfl) (by kernel_rfl)
theorem agg43 : Agg Try.prog 43 1 := Agg.of (by kernel_rfl) (by kernel_rfl)
theorem szf43 : (Try.prog.info? 43).map (·.size) = some 1 := by kernel_rfl
theorem zt41 : ZT Try.prog 41 [.string ⟨#[]⟩, .string ⟨#[]⟩] := ZT.of (z := .agg #[.string ⟨#[]⟩, .string ⟨#[]⟩]) (by kernel_rfl) rfl
theorem fa41_0 : FA Try.prog 41 0 0 := FA.of (T := 9) (k := 0) (by kernel_rfl) (by kernel_rfl)
theorem fa41_1 : FA Try.prog 41 1 1 := FA.of (T := 9) (k := 0) (by kernel_rfl) (by kernel_rfl)
theorem agg41 : Agg Try.prog 41 2 := Agg.of (by kernel_rfl) (by kernel_rfl)
theorem szf41 : (Try.prog.info? 41).map (·.size) = some 2 := by kernel_rfl
theorem zt85 : ZT Try.prog 85 [.int .i64 0, .string ⟨#[]⟩, .string ⟨#[]⟩, .string ⟨#[]⟩, .int .i64 0, .bool false, .int .i64 0, .string ⟨#[]⟩] := ZT.of (z := .agg #[.int .i64 0, .string ⟨#[]⟩, .string ⟨#[]⟩, .string ⟨#[]⟩, .int .i64 0, .bool false, .int .i64 0, .string ⟨#[]⟩]) (by kernel_rfl) rfl
theorem fa99_0 : FA Try.prog 99 0 0 := FA.of (T := 3) (k := 0) (by kernel_rfl) (by kernel_rfl)
theorem sca3 : Sca Try.prog 3 := Sca.of (by kernel_rfl) (by kernel_rfl)
theorem fa85_0 : FA Try.prog 85 0 0 := FA.of (T := 3) (k := 0) (by kernel_rfl) (by kernel_rfl)
theorem szf3 : (Try.prog.info? 3).map (·.size) = some 1 := by kernel_rfl
theorem fn24 : FN Try.prog 24 := FN.of Try.func24 (by kernel_rfl) (by kernel_rfl)
theorem fa85_1 : FA Try.prog 85 1 1 := FA.of (T := 41) (k := 1) (by kernel_rfl) (by kernel_rfl)
theorem fa85_2 : FA Try.prog 85 2 3 := FA.of (T := 9) (k := 0) (by kernel_rfl) (by kernel_rfl)
theorem fa99_3 : FA Try.prog 99 3 4 := FA.of (T := 3) (k := 0) (by kernel_rfl) (by kernel_rfl)
theorem fa85_3 : FA Try.prog 85 3 4 := FA.of (T := 3) (k := 0) (by kernel_rfl) (by kernel_rfl)
theorem fa99_4 : FA Try.prog 99 4 5 := FA.of (T := 4) (k := 0) (by kernel_rfl) (by kernel_rfl)
theorem sca4 : Sca Try.prog 4 := Sca.of (by kernel_rfl) (by kernel_rfl)
theorem fa85_4 : FA Try.prog 85 4 5 := FA.of (T := 4) (k := 0) (by kernel_rfl) (by kernel_rfl)
theorem szf4 : (Try.prog.info? 4).map (·.size) = some 1 := by kernel_rfl
theorem fa99_5 : FA Try.prog 99 5 6 := FA.of (T := 3) (k := 0) (by kernel_rfl) (by kernel_rfl)
theorem fa85_5 : FA Try.prog 85 5 6 := FA.of (T := 3) (k := 0) (by kernel_rfl) (by kernel_rfl)
theorem fa85_6 : FA Try.prog 85 6 7 := FA.of (T := 9) (k := 0) (by kernel_rfl) (by kernel_rfl)
theorem agg85 : Agg Try.prog 85 8 := Agg.of (by kernel_rfl) (by kernel_rfl)
theorem szf85 : (Try.prog.info? 85).map (·.size) = some 8 := by kernel_rfl
theorem zt88 : ZT Try.prog 88 [.string ⟨#[]⟩, .string ⟨#[]⟩, .bool false, .int .i64 0, .string ⟨#[]⟩] := ZT.of (z := .agg #[.string ⟨#[]⟩, .string ⟨#[]⟩, .bool false, .int .i64 0, .string ⟨#[]⟩]) (by kernel_rfl) rfl
theorem fa88_0 : FA Try.prog 88 0 0 := FA.of (T := 41) (k := 1) (by kernel_rfl) (by kernel_rfl)
theorem fa102_1 : FA Try.prog 102 1 2 := FA.of (T := 4) (k := 0) (by kernel_rfl) (by kernel_rfl)
theorem fa88_1 : FA Try.prog 88 1 2 := FA.of (T := 4) (k := 0) (by kernel_rfl) (by kernel_rfl)
theorem fa102_2 : FA Try.prog 102 2 3 := FA.of (T := 3) (k := 0) (by kernel_rfl) (by kernel_rfl)
theorem fa88_2 : FA Try.prog 88 2 3 := FA.of (T := 3) (k := 0) (by kernel_rfl) (by kernel_rfl)
theorem fa88_3 : FA Try.prog 88 3 4 := FA.of (T := 9) (k := 0) (by kernel_rfl) (by kernel_rfl)
theorem agg88 : Agg Try.prog 88 5 := Agg.of (by kernel_rfl) (by kernel_rfl)
theorem szf88 : (Try.prog.info? 88).map (·.size) = some 5 := by kernel_rfl
theorem elt79 : ElT Try.prog 79 109 (⟨[], []⟩ : TAttr) 32 := ElT.of (zv := .agg #[.string ⟨#[]⟩, .string ⟨#[]⟩]) (by kernel_rfl) (by kernel_rfl) rfl (fun w => own_flat (TAttr.zok w))
theorem fn80 : FN Try.prog 80 := FN.of Try.func80 (by kernel_rfl) (by kernel_rfl)
theorem slt79 : SlT Try.prog 79 109 2 := ⟨by kernel_rfl, by kernel_rfl⟩
theorem elt48 : ElT Try.prog 48 85 (⟨0, ⟨[], []⟩, [], 0, false, 0, []⟩ : TSlot) 96 := ElT.of (zv := .agg #[.int .i64 0, .string ⟨#[]⟩, .string ⟨#[]⟩, .string ⟨#[]⟩, .int .i64 0, .bool false, .int .i64 0, .string ⟨#[]⟩]) (by kernel_rfl) (by kernel_rfl) rfl (fun w => own_flat (TSlot.zok w))
theorem fn62 : FN Try.prog 62 := FN.of Try.func62 (by kernel_rfl) (by kernel_rfl)
theorem slt48 : SlT Try.prog 48 85 8 := ⟨by kernel_rfl, by kernel_rfl⟩
theorem elt49 : ElT Try.prog 49 88 (⟨⟨[], []⟩, false, 0, []⟩ : TModule) 64 := ElT.of (zv := .agg #[.string ⟨#[]⟩, .string ⟨#[]⟩, .bool false, .int .i64 0, .string ⟨#[]⟩]) (by kernel_rfl) (by kernel_rfl) rfl (fun w => own_flat (TModule.zok w))
theorem fn63 : FN Try.prog 63 := FN.of Try.func63 (by kernel_rfl) (by kernel_rfl)
theorem slt49 : SlT Try.prog 49 88 5 := ⟨by kernel_rfl, by kernel_rfl⟩
theorem elt50 : ElT Try.prog 50 41 (⟨[], []⟩ : TAddr) 32 := ElT.of (zv := .agg #[.string ⟨#[]⟩, .string ⟨#[]⟩]) (by kernel_rfl) (by kernel_rfl) rfl (fun w => own_flat (TAddr.zok w))
theorem slt50 : SlT Try.prog 50 41 2 := ⟨by kernel_rfl, by kernel_rfl⟩
theorem elt31 : ElT Try.prog 31 3 (0 : Int) 8 := ElT.of (zv := .int .i64 0) (by kernel_rfl) (by kernel_rfl) rfl (fun w => own_flat (⟨by decide, by decide⟩))
theorem slt31 : SlT Try.prog 31 3 1 := ⟨by kernel_rfl, by kernel_rfl⟩
theorem elt24 : ElT Try.prog 24 9 ([] : Str) 16 := ElT.of (zv := .string ⟨#[]⟩) (by kernel_rfl) (by kernel_rfl) rfl (fun w => own_flat (Nat.zero_le _))
theorem zt81 : ZT Try.prog 81 [.int .i64 0, .string ⟨#[]⟩, .slice none 0 0, .string ⟨#[]⟩] := ZT.of (z := .agg #[.int .i64 0, .string ⟨#[]⟩, .slice none 0 0, .string ⟨#[]⟩]) (by kernel_rfl) rfl
theorem fa94_0 : FA Try.prog 94 0 0 := FA.of (T := 3) (k := 0) (by kernel_rfl) (by kernel_rfl)
theorem fa81_0 : FA Try.prog 81 0 0 := FA.of (T := 3) (k := 0) (by kernel_rfl) (by kernel_rfl)
theorem fa81_1 : FA Try.prog 81 1 1 := FA.of (T := 9) (k := 0) (by kernel_rfl) (by kernel_rfl)
theorem fn75 : FN Try.prog 75 := FN.of Try.func75 (by kernel_rfl) (by kernel_rfl)
theorem fa81_2 : FA Try.prog 81 2 2 := FA.of (T := 79) (k := 0) (by kernel_rfl) (by kernel_rfl)
theorem szf79 : (Try.prog.info? 79).map (·.size) = some 1 := by kernel_rfl
theorem fa81_3 : FA Try.prog 81 3 3 := FA.of (T := 9) (k := 0) (by kernel_rfl) (by kernel_rfl)
theorem agg81 : Agg Try.prog 81 4 := Agg.of (by kernel_rfl) (by kernel_rfl)
theorem szf81 : (Try.prog.info? 81).map (·.size) = some 4 := by kernel_rfl
theorem zt106 : ZT Try.prog 106 [.string ⟨#[]⟩, .string ⟨#[]⟩, .int .i64 0, .slice none 0 0] := ZT.of (z := .agg #[.string ⟨#[]⟩, .string ⟨#[]⟩, .int .i64 0, .slice none 0 0]) (by kernel_rfl) rfl
theorem fa106_0 : FA Try.prog 106 0 0 := FA.of (T := 9) (k := 0) (by kernel_rfl) (by kernel_rfl)
theorem fa106_1 : FA Try.prog 106 1 1 := FA.of (T := 9) (k := 0) (by kernel_rfl) (by kernel_rfl)
theorem fa123_2 : FA Try.prog 123 2 2 := FA.of (T := 3) (k := 0) (by kernel_rfl) (by kernel_rfl)
theorem fa106_2 : FA Try.prog 106 2 2 := FA.of (T := 3) (k := 0) (by kernel_rfl) (by kernel_rfl)
theorem fa106_3 : FA Try.prog 106 3 3 := FA.of (T := 79) (k := 0) (by kernel_rfl) (by kernel_rfl)
theorem agg106 : Agg Try.prog 106 4 := Agg.of (by kernel_rfl) (by kernel_rfl)
theorem szf106 : (Try.prog.info? 106).map (·.size) = some 4 := by kernel_rfl
theorem elt44 : ElT Try.prog 44 81 (⟨0, [], ⟨[], none, 0⟩, []⟩ : PToken) 64 := ElT.of (zv := .agg #[.int .i64 0, .string ⟨#[]⟩, .slice none 0 0, .string ⟨#[]⟩]) (by kernel_rfl) (by kernel_rfl) rfl (fun w => PToken.zown w)
theorem fn59 : FN Try.prog 59 := FN.of Try.func59 (by kernel_rfl) (by kernel_rfl)
theorem slt44 : SlT Try.prog 44 81 4 := ⟨by kernel_rfl, by kernel_rfl⟩
theorem elt45 : ElT Try.prog 45 106 (⟨[], [], 0, ⟨[], none, 0⟩⟩ : PNode) 64 := ElT.of (zv := .agg #[.string ⟨#[]⟩, .string ⟨#[]⟩, .int .i64 0, .slice none 0 0]) (by kernel_rfl) (by kernel_rfl) rfl (fun w => PNode.zown w)
theorem fn76 : FN Try.prog 76 := FN.of Try.func76 (by kernel_rfl) (by kernel_rfl)
theorem slt45 : SlT Try.prog 45 106 4 := ⟨by kernel_rfl, by kernel_rfl⟩
theorem zt47 : ZT Try.prog 47 [.slice none 0 0, .slice none 0 0] := ZT.of (z := .agg #[.slice none 0 0, .slice none 0 0]) (by kernel_rfl) rfl
theorem fn60 : FN Try.prog 60 := FN.of Try.func60 (by kernel_rfl) (by kernel_rfl)
theorem fa47_0 : FA Try.prog 47 0 0 := FA.of (T := 45) (k := 0) (by kernel_rfl) (by kernel_rfl)
theorem szf45 : (Try.prog.info? 45).map (·.size) = some 1 := by kernel_rfl
theorem fn61 : FN Try.prog 61 := FN.of Try.func61 (by kernel_rfl) (by kernel_rfl)
theorem fa47_1 : FA Try.prog 47 1 1 := FA.of (T := 31) (k := 0) (by kernel_rfl) (by kernel_rfl)
theorem szf31 : (Try.prog.info? 31).map (·.size) = some 1 := by kernel_rfl
theorem agg47 : Agg Try.prog 47 2 := Agg.of (by kernel_rfl) (by kernel_rfl)
theorem szf47 : (Try.prog.info? 47).map (·.size) = some 2 := by kernel_rfl
theorem zt42 : ZT Try.prog 42 [.bool false, .slice none 0 0, .slice none 0 0, .slice none 0 0, .string ⟨#[]⟩] := ZT.of (z := .agg #[.bool false, .slice none 0 0, .slice none 0 0, .slice none 0 0, .string ⟨#[]⟩]) (by kernel_rfl) rfl
theorem fa26_0 : FA Try.prog 26 0 0 := FA.of (T := 4) (k := 0) (by kernel_rfl) (by kernel_rfl)
theorem fa42_0 : FA Try.prog 42 0 0 := FA.of (T := 4) (k := 0) (by kernel_rfl) (by kernel_rfl)
theorem fn32 : FN Try.prog 32 := FN.of Try.func32 (by kernel_rfl) (by kernel_rfl)
theorem fa42_1 : FA Try.prog 42 1 1 := FA.of (T := 24) (k := 0) (by kernel_rfl) (by kernel_rfl)
theorem szf24 : (Try.prog.info? 24).map (·.size) = some 1 := by kernel_rfl
theorem fa42_2 : FA Try.prog 42 2 2 := FA.of (T := 24) (k := 0) (by kernel_rfl) (by kernel_rfl)
theorem fa42_3 : FA Try.prog 42 3 3 := FA.of (T := 24) (k := 0) (by kernel_rfl) (by kernel_rfl)
theorem fa42_4 : FA Try.prog 42 4 4 := FA.of (T := 9) (k := 0) (by kernel_rfl) (by kernel_rfl)
theorem agg42 : Agg Try.prog 42 5 := Agg.of (by kernel_rfl) (by kernel_rfl)
theorem szf42 : (Try.prog.info? 42).map (·.size) = some 5 := by kernel_rfl
theorem zt52 : ZT Try.prog 52 [.string ⟨#[]⟩, .string ⟨#[]⟩, .bool false, .slice none 0 0, .slice none 0 0, .slice none 0 0, .string ⟨#[]⟩, .string ⟨#[]⟩, .slice none 0 0, .bool false, .slice none 0 0, .slice none 0 0, .slice none 0 0, .slice none 0 0, .slice none 0 0, .int .i64 0, .int .i64 0, .int .i64 0, .int .i64 0, .slice none 0 0, .slice none 0 0, .bool false] := ZT.of (z := .agg #[.string ⟨#[]⟩, .string ⟨#[]⟩, .bool false, .slice none 0 0, .slice none 0 0, .slice none 0 0, .string ⟨#[]⟩, .string ⟨#[]⟩, .slice none 0 0, .bool false, .slice none 0 0, .slice none 0 0, .slice none 0 0, .slice none 0 0, .slice none 0 0, .int .i64 0, .int .i64 0, .int .i64 0, .int .i64 0, .slice none 0 0, .slice none 0 0, .bool false]) (by kernel_rfl) rfl
theorem fa52_0 : FA Try.prog 52 0 0 := FA.of (T := 41) (k := 1) (by kernel_rfl) (by kernel_rfl)
theorem fn25 : FN Try.prog 25 := FN.of Try.func25 (by kernel_rfl) (by kernel_rfl)
theorem fa52_1 : FA Try.prog 52 1 2 := FA.of (T := 42) (k := 4) (by kernel_rfl) (by kernel_rfl)
theorem fn26 : FN Try.prog 26 := FN.of Try.func26 (by kernel_rfl) (by kernel_rfl)
theorem fa52_2 : FA Try.prog 52 2 7 := FA.of (T := 43) (k := 0) (by kernel_rfl) (by kernel_rfl)
theorem fn27 : FN Try.prog 27 := FN.of Try.func27 (by kernel_rfl) (by kernel_rfl)
theorem fa52_3 : FA Try.prog 52 3 8 := FA.of (T := 44) (k := 0) (by kernel_rfl) (by kernel_rfl)
theorem szf44 : (Try.prog.info? 44).map (·.size) = some 1 := by kernel_rfl
theorem fa38_4 : FA Try.prog 38 4 9 := FA.of (T := 4) (k := 0) (by kernel_rfl) (by kernel_rfl)
theorem fa52_4 : FA Try.prog 52 4 9 := FA.of (T := 4) (k := 0) (by kernel_rfl) (by kernel_rfl)
theorem fn28 : FN Try.prog 28 := FN.of Try.func28 (by kernel_rfl) (by kernel_rfl)
theorem fa52_5 : FA Try.prog 52 5 10 := FA.of (T := 47) (k := 1) (by kernel_rfl) (by kernel_rfl)
theorem fn29 : FN Try.prog 29 := FN.of Try.func29 (by kernel_rfl) (by kernel_rfl)
theorem fa52_6 : FA Try.prog 52 6 12 := FA.of (T := 48) (k := 0) (by kernel_rfl) (by kernel_rfl)
theorem szf48 : (Try.prog.info? 48).map (·.size) = some 1 := by kernel_rfl
theorem fn30 : FN Try.prog 30 := FN.of Try.func30 (by kernel_rfl) (by kernel_rfl)
theorem fa52_7 : FA Try.prog 52 7 13 := FA.of (T := 49) (k := 0) (by kernel_rfl) (by kernel_rfl)
theorem szf49 : (Try.prog.info? 49).map (·.size) = some 1 := by kernel_rfl
theorem fn31 : FN Try.prog 31 := FN.of Try.func31 (by kernel_rfl) (by kernel_rfl)
theorem fa52_8 : FA Try.prog 52 8 14 := FA.of (T := 50) (k := 0) (by kernel_rfl) (by kernel_rfl)
theorem szf50 : (Try.prog.info? 50).map (·.size) = some 1 := by kernel_rfl
theorem fa38_9 : FA Try.prog 38 9 15 := FA.of (T := 3) (k := 0) (by kernel_rfl) (by kernel_rfl)
theorem fa52_9 : FA Try.prog 52 9 15 := FA.of (T := 3) (k := 0) (by kernel_rfl) (by kernel_rfl)
theorem fa38_10 : FA Try.prog 38 10 16 := FA.of (T := 3) (k := 0) (by kernel_rfl) (by kernel_rfl)
theorem fa52_10 : FA Try.prog 52 10 16 := FA.of (T := 3) (k := 0) (by kernel_rfl) (by kernel_rfl)
theorem fa38_11 : FA Try.prog 38 11 17 := FA.of (T := 3) (k := 0) (by kernel_rfl) (by kernel_rfl)
theorem fa52_11 : FA Try.prog 52 11 17 := FA.of (T := 3) (k := 0) (by kernel_rfl) (by kernel_rfl)
theorem fa38_12 : FA Try.prog 38 12 18 := FA.of (T := 3) (k := 0) (by kernel_rfl) (by kernel_rfl)
theorem fa52_12 : FA Try.prog 52 12 18 := FA.of (T := 3) (k := 0) (by kernel_rfl) (by kernel_rfl)
theorem fa52_13 : FA Try.prog 52 13 19 := FA.of (T := 50) (k := 0) (by kernel_rfl) (by kernel_rfl)
theorem fa52_14 : FA Try.prog 52 14 20 := FA.of (T := 24) (k := 0) (by kernel_rfl) (by kernel_rfl)
theorem fa38_15 : FA Try.prog 38 15 21 := FA.of (T := 4) (k := 0) (by kernel_rfl) (by kernel_rfl)
theorem fa52_15 : FA Try.prog 52 15 21 := FA.of (T := 4) (k := 0) (by kernel_rfl) (by kernel_rfl)
theorem agg52 : Agg Try.prog 52 22 := Agg.of (by kernel_rfl) (by kernel_rfl)
theorem szf52 : (Try.prog.info? 52).map (·.size) = some 22 := by kernel_rfl
theorem fn41 : FN Try.prog 41 := FN.of Try.func41 (by kernel_rfl) (by kernel_rfl)
theorem bool4 : Try.prog.underlying 4 = some .bool := by kernel_rfl
theorem slu79 : Try.prog.underlying 79 = some (.slice 109) := by kernel_rfl
theorem mixed : Try.prog.follows .mixedOrders = true := by kernel_rfl
theorem fn81 : FN Try.prog 81 := FN.of Try.func81 (by kernel_rfl) (by kernel_rfl)
theorem slu48 : Try.prog.underlying 48 = some (.slice 85) := by kernel_rfl
theorem fn71 : FN Try.prog 71 := FN.of Try.func71 (by kernel_rfl) (by kernel_rfl)
theorem slu49 : Try.prog.underlying 49 = some (.slice 88) := by kernel_rfl
theorem fn72 : FN Try.prog 72 := FN.of Try.func72 (by kernel_rfl) (by kernel_rfl)
theorem slu50 : Try.prog.underlying 50 = some (.slice 41) := by kernel_rfl
theorem sca79 : Sca Try.prog 79 := Sca.of (by kernel_rfl) (by kernel_rfl)
theorem fn77 : FN Try.prog 77 := FN.of Try.func77 (by kernel_rfl) (by kernel_rfl)
theorem slu44 : Try.prog.underlying 44 = some (.slice 81) := by kernel_rfl
theorem fn68 : FN Try.prog 68 := FN.of Try.func68 (by kernel_rfl) (by kernel_rfl)
theorem slu45 : Try.prog.underlying 45 = some (.slice 106) := by kernel_rfl
theorem fn78 : FN Try.prog 78 := FN.of Try.func78 (by kernel_rfl) (by kernel_rfl)
theorem sca45 : Sca Try.prog 45 := Sca.of (by kernel_rfl) (by kernel_rfl)
theorem fn69 : FN Try.prog 69 := FN.of Try.func69 (by kernel_rfl) (by kernel_rfl)
theorem fn70 : FN Try.prog 70 := FN.of Try.func70 (by kernel_rfl) (by kernel_rfl)
theorem fn49 : FN Try.prog 49 := FN.of Try.func49 (by kernel_rfl) (by kernel_rfl)
theorem fn42 : FN Try.prog 42 := FN.of Try.func42 (by kernel_rfl) (by kernel_rfl)
theorem fn43 : FN Try.prog 43 := FN.of Try.func43 (by kernel_rfl) (by kernel_rfl)
theorem sca44 : Sca Try.prog 44 := Sca.of (by kernel_rfl) (by kernel_rfl)
theorem fn44 : FN Try.prog 44 := FN.of Try.func44 (by kernel_rfl) (by kernel_rfl)
theorem fn45 : FN Try.prog 45 := FN.of Try.func45 (by kernel_rfl) (by kernel_rfl)
theorem sca48 : Sca Try.prog 48 := Sca.of (by kernel_rfl) (by kernel_rfl)
theorem fn46 : FN Try.prog 46 := FN.of Try.func46 (by kernel_rfl) (by kernel_rfl)
theorem sca49 : Sca Try.prog 49 := Sca.of (by kernel_rfl) (by kernel_rfl)
theorem fn47 : FN Try.prog 47 := FN.of Try.func47 (by kernel_rfl) (by kernel_rfl)
theorem sca50 : Sca Try.prog 50 := Sca.of (by kernel_rfl) (by kernel_rfl)
theorem fn48 : FN Try.prog 48 := FN.of Try.func48 (by kernel_rfl) (by kernel_rfl)
theorem fn55 : FN Try.prog 55 := FN.of Try.func55 (by kernel_rfl) (by kernel_rfl)
theorem fn40 : FN Try.prog 40 := FN.of Try.func40 (by kernel_rfl) (by kernel_rfl)
theorem eqin109 (d : Nat) (x y : TAttr) (w : World) : (Op.equalIn (d + 2) 109 (.agg #[S x.name, S x.value]) (.agg #[S y.name, S y.value])).run Try.prog w = .ok (decide (x = y)) w := by
  have hf : Try.prog.fieldsOf 109 = #[⟨ "Name", 9, 0, false, "", "", 0⟩, ⟨ "Value", 9, 1, false, "", "", 16⟩] := by kernel_rfl
  rw [run_equalIn_agg w (d + 1) 109 _ _ (by kernel_rfl) (by kernel_rfl), hf]
  simp [Op.eqFields, go_sem, TAttr.ext_iff]
  try ((repeat' split) <;> simp_all)
theorem eqt109 : EqT Try.prog 109 (α := TAttr) := run_eqt_of (eqin109 9998) (by kernel_rfl)
theorem fn56 : FN Try.prog 56 := FN.of Try.func56 (by kernel_rfl) (by kernel_rfl)
theorem fn57 : FN Try.prog 57 := FN.of Try.func57 (by kernel_rfl) (by kernel_rfl)
theorem fn58 : FN Try.prog 58 := FN.of Try.func58 (by kernel_rfl) (by kernel_rfl)
theorem eqin41 (d : Nat) (x y : TAddr) (w : World) : (Op.equalIn (d + 2) 41 (.agg #[S x.host, S x.path]) (.agg #[S y.host, S y.path])).run Try.prog w = .ok (decide (x = y)) w := by
  have hf : Try.prog.fieldsOf 41 = #[⟨ "Host", 9, 0, false, "", "", 0⟩, ⟨ "Path", 9, 1, false, "", "", 16⟩] := by kernel_rfl
  rw [run_equalIn_agg w (d + 1) 41 _ _ (by kernel_rfl) (by kernel_rfl), hf]
  simp [Op.eqFields, go_sem, TAddr.ext_iff]
  try ((repeat' split) <;> simp_all)
theorem eqin85 (d : Nat) (x y : TSlot) (w : World) : (Op.equalIn (d + 3) 85 (.agg #[I x.mode, S x.to.host, S x.to.path, S x.digest, I x.node, Bo x.done, I x.code, S x.body]) (.agg #[I y.mode, S y.to.host, S y.to.path, S y.digest, I y.node, Bo y.done, I y.code, S y.body])).run Try.prog w = .ok (decide (x = y)) w := by
  have hf : Try.prog.fieldsOf 85 = #[⟨ "Mode", 3, 0, false, "", "", 0⟩, ⟨ "To", 41, 1, false, "", "", 8⟩, ⟨ "Digest", 9, 3, false, "", "", 40⟩, ⟨ "Node", 3, 4, false, "", "", 56⟩, ⟨ "Done", 4, 5, false, "", "", 64⟩, ⟨ "Code", 3, 6, false, "", "", 72⟩, ⟨ "Body", 9, 7, false, "", "", 80⟩] := by kernel_rfl
  rw [run_equalIn_agg w (d + 2) 85 _ _ (by kernel_rfl) (by kernel_rfl), hf]
  simp [Op.eqFields, go_sem, TSlot.ext_iff, eqin41]
  try ((repeat' split) <;> simp_all)
theorem eqt85 : EqT Try.prog 85 (α := TSlot) := run_eqt_of (eqin85 9997) (by kernel_rfl)
theorem eqin88 (d : Nat) (x y : TModule) (w : World) : (Op.equalIn (d + 3) 88 (.agg #[S x.to.host, S x.to.path, Bo x.done, I x.code, S x.body]) (.agg #[S y.to.host, S y.to.path, Bo y.done, I y.code, S y.body])).run Try.prog w = .ok (decide (x = y)) w := by
  have hf : Try.prog.fieldsOf 88 = #[⟨ "To", 41, 0, false, "", "", 0⟩, ⟨ "Done", 4, 2, false, "", "", 32⟩, ⟨ "Code", 3, 3, false, "", "", 40⟩, ⟨ "Body", 9, 4, false, "", "", 48⟩] := by kernel_rfl
  rw [run_equalIn_agg w (d + 2) 88 _ _ (by kernel_rfl) (by kernel_rfl), hf]
  simp [Op.eqFields, go_sem, TModule.ext_iff, eqin41]
  try ((repeat' split) <;> simp_all)
theorem eqt88 : EqT Try.prog 88 (α := TModule) := run_eqt_of (eqin88 9997) (by kernel_rfl)
theorem eqt41 : EqT Try.prog 41 (α := TAddr) := run_eqt_of (eqin41 9998) (by kernel_rfl)
theorem eqin43 (d : Nat) (x y : TTokenizer) (w : World) : (Op.equalIn (d + 2) 43 (.agg #[S x.rest]) (.agg #[S y.rest])).run Try.prog w = .ok (decide (x = y)) w := by
  have hf : Try.prog.fieldsOf 43 = #[⟨ "Rest", 9, 0, false, "", "", 0⟩] := by kernel_rfl
  rw [run_equalIn_agg w (d + 1) 43 _ _ (by kernel_rfl) (by kernel_rfl), hf]
  simp [Op.eqFields, go_sem, TTokenizer.ext_iff]
  try ((repeat' split) <;> simp_all)
theorem eqt43 : EqT Try.prog 43 (α := TTokenizer) := run_eqt_of (eqin43 9998) (by kernel_rfl)
theorem fn18 : FN Try.prog 18 := FN.of Try.func18 (by kernel_rfl) (by kernel_rfl)
theorem fn19 : FN Try.prog 19 := FN.of Try.func19 (by kernel_rfl) (by kernel_rfl)
theorem fn20 : FN Try.prog 20 := FN.of Try.func20 (by kernel_rfl) (by kernel_rfl)
theorem fn21 : FN Try.prog 21 := FN.of Try.func21 (by kernel_rfl) (by kernel_rfl)
theorem fn22 : FN Try.prog 22 := FN.of Try.func22 (by kernel_rfl) (by kernel_rfl)
theorem fn23 : FN Try.prog 23 := FN.of Try.func23 (by kernel_rfl) (by kernel_rfl)
theorem fn64 : FN Try.prog 64 := FN.of Try.func64 (by kernel_rfl) (by kernel_rfl)
theorem fn65 : FN Try.prog 65 := FN.of Try.func65 (by kernel_rfl) (by kernel_rfl)
theorem fn66 : FN Try.prog 66 := FN.of Try.func66 (by kernel_rfl) (by kernel_rfl)
theorem fn67 : FN Try.prog 67 := FN.of Try.func67 (by kernel_rfl) (by kernel_rfl)
theorem fn33 : FN Try.prog 33 := FN.of Try.func33 (by kernel_rfl) (by kernel_rfl)
theorem fn34 : FN Try.prog 34 := FN.of Try.func34 (by kernel_rfl) (by kernel_rfl)
theorem fn35 : FN Try.prog 35 := FN.of Try.func35 (by kernel_rfl) (by kernel_rfl)
theorem fn36 : FN Try.prog 36 := FN.of Try.func36 (by kernel_rfl) (by kernel_rfl)
theorem fn37 : FN Try.prog 37 := FN.of Try.func37 (by kernel_rfl) (by kernel_rfl)
theorem fn38 : FN Try.prog 38 := FN.of Try.func38 (by kernel_rfl) (by kernel_rfl)
theorem fn39 : FN Try.prog 39 := FN.of Try.func39 (by kernel_rfl) (by kernel_rfl)
theorem agg38 : Agg Try.prog 38 22 := Agg.of (by kernel_rfl) (by kernel_rfl)
theorem fn4 : FN Try.prog 4 := FN.of Try.func4 (by kernel_rfl) (by kernel_rfl)
theorem fn6 : FN Try.prog 6 := FN.of Try.func6 (by kernel_rfl) (by kernel_rfl)
theorem fn5 : FN Try.prog 5 := FN.of Try.func5 (by kernel_rfl) (by kernel_rfl)
theorem fn7 : FN Try.prog 7 := FN.of Try.func7 (by kernel_rfl) (by kernel_rfl)
theorem fn8 : FN Try.prog 8 := FN.of Try.func8 (by kernel_rfl) (by kernel_rfl)

end Go.Sw
