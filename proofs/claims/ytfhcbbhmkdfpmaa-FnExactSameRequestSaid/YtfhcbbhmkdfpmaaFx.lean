/- Facts on the types and functions of this translation, each closed. No conditions. -/
import Derived.Test.YtfhcbbhmkdfpmaaRows
import Derived.Test.YtfhcbbhmkdfpmaaLibP
import Derived.WalkSpells
namespace Go.Sw
open Go Go.RowKit Go.Proofs

theorem str9 : Try.prog.underlying 9 = some .string := by kernel_rfl
theorem fn63 : FN Try.prog 63 := FN.of Try.func63 (by kernel_rfl) (by kernel_rfl)
theorem fn67 : FN Try.prog 67 := FN.of Try.func67 (by kernel_rfl) (by kernel_rfl)
theorem fa28_0 : FA Try.prog 28 0 0 := FA.of (T := 9) (k := 0) (by kernel_rfl) (by kernel_rfl)
theorem sca9 : Sca Try.prog 9 := Sca.of (by kernel_rfl) (by kernel_rfl)
theorem fn65 : FN Try.prog 65 := FN.of Try.func65 (by kernel_rfl) (by kernel_rfl)
theorem fa28_1 : FA Try.prog 28 1 1 := FA.of (T := 9) (k := 0) (by kernel_rfl) (by kernel_rfl)
theorem fn69 : FN Try.prog 69 := FN.of Try.func69 (by kernel_rfl) (by kernel_rfl)
theorem fa30_1 : FA Try.prog 30 1 1 := FA.of (T := 28) (k := 1) (by kernel_rfl) (by kernel_rfl)
theorem agg28 : Agg Try.prog 28 2 := Agg.of (by kernel_rfl) (by kernel_rfl)
theorem eqin28 (d : Nat) (x y : TAddr) (w : World) : (Op.equalIn (d + 2) 28 (.agg #[S x.host, S x.path]) (.agg #[S y.host, S y.path])).run Try.prog w = .ok (decide (x = y)) w := by
  have hf : Try.prog.fieldsOf 28 = #[⟨ "Host", 9, 0, false, "", "", 0⟩, ⟨ "Path", 9, 1, false, "", "", 16⟩] := by kernel_rfl
  rw [run_equalIn_agg w (d + 1) 28 _ _ (by kernel_rfl) (by kernel_rfl), hf]
  simp [Op.eqFields, go_sem, TAddr.ext_iff]
  try ((repeat' split) <;> simp_all)
theorem eqt28 : EqT Try.prog 28 (α := TAddr) := run_eqt_of (eqin28 9998) (by kernel_rfl)
theorem fa30_2 : FA Try.prog 30 2 3 := FA.of (T := 9) (k := 0) (by kernel_rfl) (by kernel_rfl)
theorem fa30_0 : FA Try.prog 30 0 0 := FA.of (T := 3) (k := 0) (by kernel_rfl) (by kernel_rfl)
theorem sca3 : Sca Try.prog 3 := Sca.of (by kernel_rfl) (by kernel_rfl)
theorem fn64 : FN Try.prog 64 := FN.of Try.func64 (by kernel_rfl) (by kernel_rfl)
theorem fa30_3 : FA Try.prog 30 3 4 := FA.of (T := 9) (k := 0) (by kernel_rfl) (by kernel_rfl)
theorem fn66 : FN Try.prog 66 := FN.of Try.func66 (by kernel_rfl) (by kernel_rfl)
theorem fn68 : FN Try.prog 68 := FN.of Try.func68 (by kernel_rfl) (by kernel_rfl)
theorem fn70 : FN Try.prog 70 := FN.of Try.func70 (by kernel_rfl) (by kernel_rfl)
theorem agg30 : Agg Try.prog 30 5 := Agg.of (by kernel_rfl) (by kernel_rfl)
theorem fn31 : FN Try.prog 31 := FN.of Try.func31 (by kernel_rfl) (by kernel_rfl)
theorem fn32 : FN Try.prog 32 := FN.of Try.func32 (by kernel_rfl) (by kernel_rfl)
theorem slu38 : Try.prog.underlying 38 = some (.slice 85) := by kernel_rfl
theorem slt38 : SlT Try.prog 38 85 2 := ⟨by kernel_rfl, by kernel_rfl⟩
theorem fa85_0 : FA Try.prog 85 0 0 := FA.of (T := 3) (k := 0) (by kernel_rfl) (by kernel_rfl)
theorem agg85 : Agg Try.prog 85 2 := Agg.of (by kernel_rfl) (by kernel_rfl)
theorem zt85 : ZT Try.prog 85 [.int .i64 0, .string ⟨#[]⟩] := ZT.of (z := .agg #[.int .i64 0, .string ⟨#[]⟩]) (by kernel_rfl) rfl
theorem szf85 : (Try.prog.info? 85).map (·.size) = some 2 := by kernel_rfl
theorem fa23_0 : FA Try.prog 23 0 0 := FA.of (T := 9) (k := 0) (by kernel_rfl) (by kernel_rfl)
theorem fa23_1 : FA Try.prog 23 1 1 := FA.of (T := 9) (k := 0) (by kernel_rfl) (by kernel_rfl)
theorem fa25_1 : FA Try.prog 25 1 1 := FA.of (T := 23) (k := 1) (by kernel_rfl) (by kernel_rfl)
theorem agg23 : Agg Try.prog 23 2 := Agg.of (by kernel_rfl) (by kernel_rfl)
theorem fn48 : FN Try.prog 48 := FN.of Try.func48 (by kernel_rfl) (by kernel_rfl)
theorem fa25_2 : FA Try.prog 25 2 3 := FA.of (T := 9) (k := 0) (by kernel_rfl) (by kernel_rfl)
theorem fa25_3 : FA Try.prog 25 3 4 := FA.of (T := 9) (k := 0) (by kernel_rfl) (by kernel_rfl)
theorem fa84_1 : FA Try.prog 84 1 1 := FA.of (T := 9) (k := 0) (by kernel_rfl) (by kernel_rfl)
theorem slu35 : Try.prog.underlying 35 = some (.slice 84) := by kernel_rfl
theorem slt35 : SlT Try.prog 35 84 2 := ⟨by kernel_rfl, by kernel_rfl⟩
theorem agg84 : Agg Try.prog 84 2 := Agg.of (by kernel_rfl) (by kernel_rfl)
theorem fn57 : FN Try.prog 57 := FN.of Try.func57 (by kernel_rfl) (by kernel_rfl)
theorem slu42 : Try.prog.underlying 42 = some (.slice 9) := by kernel_rfl
theorem slt42 : SlT Try.prog 42 9 1 := ⟨by kernel_rfl, by kernel_rfl⟩
theorem zt28 : ZT Try.prog 28 [.string ⟨#[]⟩, .string ⟨#[]⟩] := ZT.of (z := .agg #[.string ⟨#[]⟩, .string ⟨#[]⟩]) (by kernel_rfl) rfl
theorem szf9 : (Try.prog.info? 9).map (·.size) = some 1 := by kernel_rfl
theorem szf28 : (Try.prog.info? 28).map (·.size) = some 2 := by kernel_rfl
theorem zt30 : ZT Try.prog 30 [.int .i64 0, .string ⟨#[]⟩, .string ⟨#[]⟩, .string ⟨#[]⟩, .string ⟨#[]⟩] := ZT.of (z := .agg #[.int .i64 0, .string ⟨#[]⟩, .string ⟨#[]⟩, .string ⟨#[]⟩, .string ⟨#[]⟩]) (by kernel_rfl) rfl
theorem fa25_0 : FA Try.prog 25 0 0 := FA.of (T := 3) (k := 0) (by kernel_rfl) (by kernel_rfl)
theorem szf3 : (Try.prog.info? 3).map (·.size) = some 1 := by kernel_rfl
theorem fn50 : FN Try.prog 50 := FN.of Try.func50 (by kernel_rfl) (by kernel_rfl)
theorem szf30 : (Try.prog.info? 30).map (·.size) = some 5 := by kernel_rfl
theorem fa84_0 : FA Try.prog 84 0 0 := FA.of (T := 3) (k := 0) (by kernel_rfl) (by kernel_rfl)
theorem fa85_1 : FA Try.prog 85 1 1 := FA.of (T := 9) (k := 0) (by kernel_rfl) (by kernel_rfl)
theorem fa72_0 : FA Try.prog 72 0 0 := FA.of (T := 3) (k := 0) (by kernel_rfl) (by kernel_rfl)
theorem fa72_1 : FA Try.prog 72 1 1 := FA.of (T := 3) (k := 0) (by kernel_rfl) (by kernel_rfl)
theorem fa72_2 : FA Try.prog 72 2 2 := FA.of (T := 9) (k := 0) (by kernel_rfl) (by kernel_rfl)
theorem fa72_3 : FA Try.prog 72 3 3 := FA.of (T := 3) (k := 0) (by kernel_rfl) (by kernel_rfl)
theorem fa72_4 : FA Try.prog 72 4 4 := FA.of (T := 4) (k := 0) (by kernel_rfl) (by kernel_rfl)
theorem sca4 : Sca Try.prog 4 := Sca.of (by kernel_rfl) (by kernel_rfl)
theorem bool4 : Try.prog.underlying 4 = some .bool := by kernel_rfl
theorem fa72_5 : FA Try.prog 72 5 5 := FA.of (T := 9) (k := 0) (by kernel_rfl) (by kernel_rfl)
theorem mixed : Try.prog.follows .mixedOrders = true := by kernel_rfl
theorem fn59 : FN Try.prog 59 := FN.of Try.func59 (by kernel_rfl) (by kernel_rfl)
theorem elt38 : ElT Try.prog 38 85 (⟨0, []⟩ : TLine) 24 := ElT.of (zv := .agg #[.int .i64 0, .string ⟨#[]⟩]) (by kernel_rfl) (by kernel_rfl) rfl (fun w => own_flat (TLine.zok w))
theorem fn58 : FN Try.prog 58 := FN.of Try.func58 (by kernel_rfl) (by kernel_rfl)
theorem elt42 : ElT Try.prog 42 9 ([] : Str) 16 := ElT.of (zv := .string ⟨#[]⟩) (by kernel_rfl) (by kernel_rfl) rfl (fun w => own_flat (Nat.zero_le _))
theorem agg25 : Agg Try.prog 25 5 := Agg.of (by kernel_rfl) (by kernel_rfl)
theorem fn15 : FN Try.prog 15 := FN.of Try.func15 (by kernel_rfl) (by kernel_rfl)
theorem fn17 : FN Try.prog 17 := FN.of Try.func17 (by kernel_rfl) (by kernel_rfl)
theorem fn16 : FN Try.prog 16 := FN.of Try.func16 (by kernel_rfl) (by kernel_rfl)
theorem fn18 : FN Try.prog 18 := FN.of Try.func18 (by kernel_rfl) (by kernel_rfl)
theorem fn33 : FN Try.prog 33 := FN.of Try.func33 (by kernel_rfl) (by kernel_rfl)
theorem fn34 : FN Try.prog 34 := FN.of Try.func34 (by kernel_rfl) (by kernel_rfl)
theorem fn21 : FN Try.prog 21 := FN.of Try.func21 (by kernel_rfl) (by kernel_rfl)
theorem fn23 : FN Try.prog 23 := FN.of Try.func23 (by kernel_rfl) (by kernel_rfl)
theorem fn22 : FN Try.prog 22 := FN.of Try.func22 (by kernel_rfl) (by kernel_rfl)
theorem fn24 : FN Try.prog 24 := FN.of Try.func24 (by kernel_rfl) (by kernel_rfl)
theorem fn25 : FN Try.prog 25 := FN.of Try.func25 (by kernel_rfl) (by kernel_rfl)
theorem fa44_1 : FA Try.prog 44 1 1 := FA.of (T := 42) (k := 0) (by kernel_rfl) (by kernel_rfl)
theorem sca42 : Sca Try.prog 42 := Sca.of (by kernel_rfl) (by kernel_rfl)
theorem fn60 : FN Try.prog 60 := FN.of Try.func60 (by kernel_rfl) (by kernel_rfl)
theorem fa44_2 : FA Try.prog 44 2 2 := FA.of (T := 42) (k := 0) (by kernel_rfl) (by kernel_rfl)
theorem fa44_3 : FA Try.prog 44 3 3 := FA.of (T := 42) (k := 0) (by kernel_rfl) (by kernel_rfl)
theorem fa44_4 : FA Try.prog 44 4 4 := FA.of (T := 9) (k := 0) (by kernel_rfl) (by kernel_rfl)
theorem zt47 : ZT Try.prog 47 [.bool false, .slice none 0 0, .slice none 0 0, .slice none 0 0, .string ⟨#[]⟩] := ZT.of (z := .agg #[.bool false, .slice none 0 0, .slice none 0 0, .slice none 0 0, .string ⟨#[]⟩]) (by kernel_rfl) rfl
theorem fa44_0 : FA Try.prog 44 0 0 := FA.of (T := 4) (k := 0) (by kernel_rfl) (by kernel_rfl)
theorem fa47_0 : FA Try.prog 47 0 0 := FA.of (T := 4) (k := 0) (by kernel_rfl) (by kernel_rfl)
theorem szf4 : (Try.prog.info? 4).map (·.size) = some 1 := by kernel_rfl
theorem fn61 : FN Try.prog 61 := FN.of Try.func61 (by kernel_rfl) (by kernel_rfl)
theorem fa47_1 : FA Try.prog 47 1 1 := FA.of (T := 42) (k := 0) (by kernel_rfl) (by kernel_rfl)
theorem szf42 : (Try.prog.info? 42).map (·.size) = some 1 := by kernel_rfl
theorem fa47_2 : FA Try.prog 47 2 2 := FA.of (T := 42) (k := 0) (by kernel_rfl) (by kernel_rfl)
theorem fa47_3 : FA Try.prog 47 3 3 := FA.of (T := 42) (k := 0) (by kernel_rfl) (by kernel_rfl)
theorem fa47_4 : FA Try.prog 47 4 4 := FA.of (T := 9) (k := 0) (by kernel_rfl) (by kernel_rfl)
theorem agg47 : Agg Try.prog 47 5 := Agg.of (by kernel_rfl) (by kernel_rfl)
theorem szf47 : (Try.prog.info? 47).map (·.size) = some 5 := by kernel_rfl
theorem fn62 : FN Try.prog 62 := FN.of Try.func62 (by kernel_rfl) (by kernel_rfl)
theorem fn71 : FN Try.prog 71 := FN.of Try.func71 (by kernel_rfl) (by kernel_rfl)
theorem fn72 : FN Try.prog 72 := FN.of Try.func72 (by kernel_rfl) (by kernel_rfl)
theorem fn87 : FN Try.prog 87 := FN.of Try.func87 (by kernel_rfl) (by kernel_rfl)
theorem fn73 : FN Try.prog 73 := FN.of Try.func73 (by kernel_rfl) (by kernel_rfl)
theorem fn74 : FN Try.prog 74 := FN.of Try.func74 (by kernel_rfl) (by kernel_rfl)
theorem fn93 : FN Try.prog 93 := FN.of Try.func93 (by kernel_rfl) (by kernel_rfl)
theorem fn88 : FN Try.prog 88 := FN.of Try.func88 (by kernel_rfl) (by kernel_rfl)
theorem fn89 : FN Try.prog 89 := FN.of Try.func89 (by kernel_rfl) (by kernel_rfl)
theorem fn75 : FN Try.prog 75 := FN.of Try.func75 (by kernel_rfl) (by kernel_rfl)
theorem fn76 : FN Try.prog 76 := FN.of Try.func76 (by kernel_rfl) (by kernel_rfl)
theorem agg44 : Agg Try.prog 44 5 := Agg.of (by kernel_rfl) (by kernel_rfl)
theorem fn26 : FN Try.prog 26 := FN.of Try.func26 (by kernel_rfl) (by kernel_rfl)
theorem fn28 : FN Try.prog 28 := FN.of Try.func28 (by kernel_rfl) (by kernel_rfl)
theorem fn27 : FN Try.prog 27 := FN.of Try.func27 (by kernel_rfl) (by kernel_rfl)
theorem fn29 : FN Try.prog 29 := FN.of Try.func29 (by kernel_rfl) (by kernel_rfl)
theorem fn30 : FN Try.prog 30 := FN.of Try.func30 (by kernel_rfl) (by kernel_rfl)
theorem fn35 : FN Try.prog 35 := FN.of Try.func35 (by kernel_rfl) (by kernel_rfl)
theorem fn36 : FN Try.prog 36 := FN.of Try.func36 (by kernel_rfl) (by kernel_rfl)
theorem fn37 : FN Try.prog 37 := FN.of Try.func37 (by kernel_rfl) (by kernel_rfl)
theorem fn38 : FN Try.prog 38 := FN.of Try.func38 (by kernel_rfl) (by kernel_rfl)
theorem fn39 : FN Try.prog 39 := FN.of Try.func39 (by kernel_rfl) (by kernel_rfl)
theorem fn40 : FN Try.prog 40 := FN.of Try.func40 (by kernel_rfl) (by kernel_rfl)
theorem fa107_2 : FA Try.prog 107 2 2 := FA.of (T := 9) (k := 0) (by kernel_rfl) (by kernel_rfl)
theorem fa107_5 : FA Try.prog 107 5 5 := FA.of (T := 9) (k := 0) (by kernel_rfl) (by kernel_rfl)
theorem fa109_0 : FA Try.prog 109 0 0 := FA.of (T := 9) (k := 0) (by kernel_rfl) (by kernel_rfl)
theorem fa109_1 : FA Try.prog 109 1 1 := FA.of (T := 23) (k := 1) (by kernel_rfl) (by kernel_rfl)
theorem fa109_2 : FA Try.prog 109 2 3 := FA.of (T := 107) (k := 5) (by kernel_rfl) (by kernel_rfl)
theorem agg107 : Agg Try.prog 107 6 := Agg.of (by kernel_rfl) (by kernel_rfl)
theorem fn94 : FN Try.prog 94 := FN.of Try.func94 (by kernel_rfl) (by kernel_rfl)
theorem slu58 : Try.prog.underlying 58 = some (.slice 109) := by kernel_rfl
theorem slt58 : SlT Try.prog 58 109 10 := ⟨by kernel_rfl, by kernel_rfl⟩
theorem agg109 : Agg Try.prog 109 10 := Agg.of (by kernel_rfl) (by kernel_rfl)
theorem fn90 : FN Try.prog 90 := FN.of Try.func90 (by kernel_rfl) (by kernel_rfl)
theorem fa60_0 : FA Try.prog 60 0 0 := FA.of (T := 58) (k := 0) (by kernel_rfl) (by kernel_rfl)
theorem sca58 : Sca Try.prog 58 := Sca.of (by kernel_rfl) (by kernel_rfl)
theorem fn77 : FN Try.prog 77 := FN.of Try.func77 (by kernel_rfl) (by kernel_rfl)
theorem zt72 : ZT Try.prog 72 [.int .i64 0, .int .i64 0, .string ⟨#[]⟩, .int .i64 0, .bool false, .string ⟨#[]⟩] := ZT.of (z := .agg #[.int .i64 0, .int .i64 0, .string ⟨#[]⟩, .int .i64 0, .bool false, .string ⟨#[]⟩]) (by kernel_rfl) rfl
theorem fa107_0 : FA Try.prog 107 0 0 := FA.of (T := 3) (k := 0) (by kernel_rfl) (by kernel_rfl)
theorem fa107_1 : FA Try.prog 107 1 1 := FA.of (T := 3) (k := 0) (by kernel_rfl) (by kernel_rfl)
theorem fa107_3 : FA Try.prog 107 3 3 := FA.of (T := 3) (k := 0) (by kernel_rfl) (by kernel_rfl)
theorem fa107_4 : FA Try.prog 107 4 4 := FA.of (T := 4) (k := 0) (by kernel_rfl) (by kernel_rfl)
theorem agg72 : Agg Try.prog 72 6 := Agg.of (by kernel_rfl) (by kernel_rfl)
theorem szf72 : (Try.prog.info? 72).map (·.size) = some 6 := by kernel_rfl
theorem zt97 : ZT Try.prog 97 [.string ⟨#[]⟩, .string ⟨#[]⟩, .string ⟨#[]⟩, .int .i64 0, .int .i64 0, .string ⟨#[]⟩, .int .i64 0, .bool false, .string ⟨#[]⟩, .int .i64 0] := ZT.of (z := .agg #[.string ⟨#[]⟩, .string ⟨#[]⟩, .string ⟨#[]⟩, .int .i64 0, .int .i64 0, .string ⟨#[]⟩, .int .i64 0, .bool false, .string ⟨#[]⟩, .int .i64 0]) (by kernel_rfl) rfl
theorem fa97_0 : FA Try.prog 97 0 0 := FA.of (T := 9) (k := 0) (by kernel_rfl) (by kernel_rfl)
theorem fa97_1 : FA Try.prog 97 1 1 := FA.of (T := 28) (k := 1) (by kernel_rfl) (by kernel_rfl)
theorem fn95 : FN Try.prog 95 := FN.of Try.func95 (by kernel_rfl) (by kernel_rfl)
theorem fa97_2 : FA Try.prog 97 2 3 := FA.of (T := 72) (k := 5) (by kernel_rfl) (by kernel_rfl)
theorem fa109_3 : FA Try.prog 109 3 9 := FA.of (T := 3) (k := 0) (by kernel_rfl) (by kernel_rfl)
theorem fa97_3 : FA Try.prog 97 3 9 := FA.of (T := 3) (k := 0) (by kernel_rfl) (by kernel_rfl)
theorem agg97 : Agg Try.prog 97 10 := Agg.of (by kernel_rfl) (by kernel_rfl)
theorem szf97 : (Try.prog.info? 97).map (·.size) = some 10 := by kernel_rfl
theorem elt63 : ElT Try.prog 63 97 (⟨[], ⟨[], []⟩, ⟨0, 0, [], 0, false, []⟩, 0⟩ : TEntry) 120 := ElT.of (zv := .agg #[.string ⟨#[]⟩, .string ⟨#[]⟩, .string ⟨#[]⟩, .int .i64 0, .int .i64 0, .string ⟨#[]⟩, .int .i64 0, .bool false, .string ⟨#[]⟩, .int .i64 0]) (by kernel_rfl) (by kernel_rfl) rfl (fun w => own_flat (TEntry.zok w))
theorem fn91 : FN Try.prog 91 := FN.of Try.func91 (by kernel_rfl) (by kernel_rfl)
theorem slt63 : SlT Try.prog 63 97 10 := ⟨by kernel_rfl, by kernel_rfl⟩
theorem zt65 : ZT Try.prog 65 [.slice none 0 0] := ZT.of (z := .agg #[.slice none 0 0]) (by kernel_rfl) rfl
theorem fn78 : FN Try.prog 78 := FN.of Try.func78 (by kernel_rfl) (by kernel_rfl)
theorem fa65_0 : FA Try.prog 65 0 0 := FA.of (T := 63) (k := 0) (by kernel_rfl) (by kernel_rfl)
theorem szf63 : (Try.prog.info? 63).map (·.size) = some 1 := by kernel_rfl
theorem agg65 : Agg Try.prog 65 1 := Agg.of (by kernel_rfl) (by kernel_rfl)
theorem szf65 : (Try.prog.info? 65).map (·.size) = some 1 := by kernel_rfl
theorem fn96 : FN Try.prog 96 := FN.of Try.func96 (by kernel_rfl) (by kernel_rfl)
theorem fn52 : FN Try.prog 52 := FN.of Try.func52 (by kernel_rfl) (by kernel_rfl)
theorem slu63 : Try.prog.underlying 63 = some (.slice 97) := by kernel_rfl
theorem fn92 : FN Try.prog 92 := FN.of Try.func92 (by kernel_rfl) (by kernel_rfl)
theorem sca63 : Sca Try.prog 63 := Sca.of (by kernel_rfl) (by kernel_rfl)
theorem fn79 : FN Try.prog 79 := FN.of Try.func79 (by kernel_rfl) (by kernel_rfl)
theorem bt72 : BT Try.prog 72 [.int .i64 0, .int .i64 0, .string ⟨#[]⟩, .int .i64 0, .bool false, .string ⟨#[]⟩] [(0, 1), (1, 1), (2, 1), (3, 1), (4, 1), (5, 1)] := BT.of (z := .agg #[.int .i64 0, .int .i64 0, .string ⟨#[]⟩, .int .i64 0, .bool false, .string ⟨#[]⟩]) (by kernel_rfl) (by kernel_rfl) rfl (fun w => by kernel_rfl)
theorem eqin72 (d : Nat) (x y : TResponse) (w : World) : (Op.equalIn (d + 2) 72 (.agg #[I x.status, I x.kind, S x.body, I x.age, Bo x.shares, S x.policy]) (.agg #[I y.status, I y.kind, S y.body, I y.age, Bo y.shares, S y.policy])).run Try.prog w = .ok (decide (x = y)) w := by
  have hf : Try.prog.fieldsOf 72 = #[⟨ "Status", 3, 0, false, "", "", 0⟩, ⟨ "Kind", 3, 1, false, "", "", 8⟩, ⟨ "Body", 9, 2, false, "", "", 16⟩, ⟨ "Age", 3, 3, false, "", "", 32⟩, ⟨ "Shares", 4, 4, false, "", "", 40⟩, ⟨ "Policy", 9, 5, false, "", "", 48⟩] := by kernel_rfl
  rw [run_equalIn_agg w (d + 1) 72 _ _ (by kernel_rfl) (by kernel_rfl), hf]
  simp [Op.eqFields, go_sem, TResponse.ext_iff]
  try ((repeat' split) <;> simp_all)
theorem eqin97 (d : Nat) (x y : TEntry) (w : World) : (Op.equalIn (d + 3) 97 (.agg #[S x.top, S x.to.host, S x.to.path, I x.response.status, I x.response.kind, S x.response.body, I x.response.age, Bo x.response.shares, S x.response.policy, I x.until_]) (.agg #[S y.top, S y.to.host, S y.to.path, I y.response.status, I y.response.kind, S y.response.body, I y.response.age, Bo y.response.shares, S y.response.policy, I y.until_])).run Try.prog w = .ok (decide (x = y)) w := by
  have hf : Try.prog.fieldsOf 97 = #[⟨ "Top", 9, 0, false, "", "", 0⟩, ⟨ "To", 28, 1, false, "", "", 16⟩, ⟨ "Response", 72, 3, false, "", "", 48⟩, ⟨ "Until", 3, 9, false, "", "", 112⟩] := by kernel_rfl
  rw [run_equalIn_agg w (d + 2) 97 _ _ (by kernel_rfl) (by kernel_rfl), hf]
  simp [Op.eqFields, go_sem, TEntry.ext_iff, eqin28, eqin72]
  try ((repeat' split) <;> simp_all)
theorem eqt97 : EqT Try.prog 97 (α := TEntry) := run_eqt_of (eqin97 9997) (by kernel_rfl)
theorem fn80 : FN Try.prog 80 := FN.of Try.func80 (by kernel_rfl) (by kernel_rfl)
theorem fn81 : FN Try.prog 81 := FN.of Try.func81 (by kernel_rfl) (by kernel_rfl)
theorem fn82 : FN Try.prog 82 := FN.of Try.func82 (by kernel_rfl) (by kernel_rfl)
theorem fn83 : FN Try.prog 83 := FN.of Try.func83 (by kernel_rfl) (by kernel_rfl)
theorem fn84 : FN Try.prog 84 := FN.of Try.func84 (by kernel_rfl) (by kernel_rfl)
theorem agg60 : Agg Try.prog 60 1 := Agg.of (by kernel_rfl) (by kernel_rfl)
theorem fn41 : FN Try.prog 41 := FN.of Try.func41 (by kernel_rfl) (by kernel_rfl)
theorem fn43 : FN Try.prog 43 := FN.of Try.func43 (by kernel_rfl) (by kernel_rfl)
theorem fn42 : FN Try.prog 42 := FN.of Try.func42 (by kernel_rfl) (by kernel_rfl)
theorem fn44 : FN Try.prog 44 := FN.of Try.func44 (by kernel_rfl) (by kernel_rfl)
theorem fn45 : FN Try.prog 45 := FN.of Try.func45 (by kernel_rfl) (by kernel_rfl)
theorem fn46 : FN Try.prog 46 := FN.of Try.func46 (by kernel_rfl) (by kernel_rfl)
theorem fn47 : FN Try.prog 47 := FN.of Try.func47 (by kernel_rfl) (by kernel_rfl)
theorem fn49 : FN Try.prog 49 := FN.of Try.func49 (by kernel_rfl) (by kernel_rfl)
theorem fn51 : FN Try.prog 51 := FN.of Try.func51 (by kernel_rfl) (by kernel_rfl)

end Go.Sw
