/- Facts on the types and functions of this translation, each closed. No conditions. -/
import Derived.Test.YtoffmddkjddioaaDoorRows
import Derived.Test.YtoffmddkjddioaaDoorLibY
import Derived.Test.YtoffmddkjddioaaDoorSh
import Derived.WalkSpells
namespace Go.Sw
open Go Go.RowKit Go.Proofs

theorem fa29_2 : FA Tryd.prog 29 2 2 := FA.of (T := 9) (k := 0) (by kernel_rfl) (by kernel_rfl)
theorem sca9 : Sca Tryd.prog 9 := Sca.of (by kernel_rfl) (by kernel_rfl)
theorem str9 : Tryd.prog.underlying 9 = some .string := by kernel_rfl
theorem fa29_5 : FA Tryd.prog 29 5 5 := FA.of (T := 9) (k := 0) (by kernel_rfl) (by kernel_rfl)
theorem zt32 : ZT Tryd.prog 32 [.int .i64 0, .int .i64 0, .string ⟨#[]⟩, .int .i64 0, .bool false, .string ⟨#[]⟩] := ZT.of (z := .agg #[.int .i64 0, .int .i64 0, .string ⟨#[]⟩, .int .i64 0, .bool false, .string ⟨#[]⟩]) (by kernel_rfl) rfl
theorem fa29_0 : FA Tryd.prog 29 0 0 := FA.of (T := 3) (k := 0) (by kernel_rfl) (by kernel_rfl)
theorem sca3 : Sca Tryd.prog 3 := Sca.of (by kernel_rfl) (by kernel_rfl)
theorem fa32_0 : FA Tryd.prog 32 0 0 := FA.of (T := 3) (k := 0) (by kernel_rfl) (by kernel_rfl)
theorem szf3 : (Tryd.prog.info? 3).map (·.size) = some 1 := by kernel_rfl
theorem fa29_1 : FA Tryd.prog 29 1 1 := FA.of (T := 3) (k := 0) (by kernel_rfl) (by kernel_rfl)
theorem fa32_1 : FA Tryd.prog 32 1 1 := FA.of (T := 3) (k := 0) (by kernel_rfl) (by kernel_rfl)
theorem fa32_2 : FA Tryd.prog 32 2 2 := FA.of (T := 9) (k := 0) (by kernel_rfl) (by kernel_rfl)
theorem szf9 : (Tryd.prog.info? 9).map (·.size) = some 1 := by kernel_rfl
theorem fa29_3 : FA Tryd.prog 29 3 3 := FA.of (T := 3) (k := 0) (by kernel_rfl) (by kernel_rfl)
theorem fa32_3 : FA Tryd.prog 32 3 3 := FA.of (T := 3) (k := 0) (by kernel_rfl) (by kernel_rfl)
theorem fa29_4 : FA Tryd.prog 29 4 4 := FA.of (T := 4) (k := 0) (by kernel_rfl) (by kernel_rfl)
theorem sca4 : Sca Tryd.prog 4 := Sca.of (by kernel_rfl) (by kernel_rfl)
theorem fa32_4 : FA Tryd.prog 32 4 4 := FA.of (T := 4) (k := 0) (by kernel_rfl) (by kernel_rfl)
theorem szf4 : (Tryd.prog.info? 4).map (·.size) = some 1 := by kernel_rfl
theorem fa32_5 : FA Tryd.prog 32 5 5 := FA.of (T := 9) (k := 0) (by kernel_rfl) (by kernel_rfl)
theorem agg32 : Agg Tryd.prog 32 6 := Agg.of (by kernel_rfl) (by kernel_rfl)
theorem szf32 : (Tryd.prog.info? 32).map (·.size) = some 6 := by kernel_rfl
theorem fa72_0 : FA Tryd.prog 72 0 0 := FA.of (T := 9) (k := 0) (by kernel_rfl) (by kernel_rfl)
theorem fa72_1 : FA Tryd.prog 72 1 1 := FA.of (T := 9) (k := 0) (by kernel_rfl) (by kernel_rfl)
theorem fa133_0 : FA Tryd.prog 133 0 0 := FA.of (T := 9) (k := 0) (by kernel_rfl) (by kernel_rfl)
theorem fa133_1 : FA Tryd.prog 133 1 1 := FA.of (T := 72) (k := 1) (by kernel_rfl) (by kernel_rfl)
theorem agg72 : Agg Tryd.prog 72 2 := Agg.of (by kernel_rfl) (by kernel_rfl)
theorem fn40 : FN Tryd.prog 40 := FN.of Tryd.func40 (by kernel_rfl) (by kernel_rfl)
theorem fa133_2 : FA Tryd.prog 133 2 3 := FA.of (T := 29) (k := 5) (by kernel_rfl) (by kernel_rfl)
theorem agg29 : Agg Tryd.prog 29 6 := Agg.of (by kernel_rfl) (by kernel_rfl)
theorem fn16 : FN Tryd.prog 16 := FN.of Tryd.func16 (by kernel_rfl) (by kernel_rfl)
theorem slu53 : Tryd.prog.underlying 53 = some (.slice 133) := by kernel_rfl
theorem slt53 : SlT Tryd.prog 53 133 10 := ⟨by kernel_rfl, by kernel_rfl⟩
theorem agg133 : Agg Tryd.prog 133 10 := Agg.of (by kernel_rfl) (by kernel_rfl)
theorem fn103 : FN Tryd.prog 103 := FN.of Tryd.func103 (by kernel_rfl) (by kernel_rfl)
theorem fa55_0 : FA Tryd.prog 55 0 0 := FA.of (T := 53) (k := 0) (by kernel_rfl) (by kernel_rfl)
theorem sca53 : Sca Tryd.prog 53 := Sca.of (by kernel_rfl) (by kernel_rfl)
theorem fn71 : FN Tryd.prog 71 := FN.of Tryd.func71 (by kernel_rfl) (by kernel_rfl)
theorem zt75 : ZT Tryd.prog 75 [.string ⟨#[]⟩, .string ⟨#[]⟩] := ZT.of (z := .agg #[.string ⟨#[]⟩, .string ⟨#[]⟩]) (by kernel_rfl) rfl
theorem fa75_0 : FA Tryd.prog 75 0 0 := FA.of (T := 9) (k := 0) (by kernel_rfl) (by kernel_rfl)
theorem fa75_1 : FA Tryd.prog 75 1 1 := FA.of (T := 9) (k := 0) (by kernel_rfl) (by kernel_rfl)
theorem agg75 : Agg Tryd.prog 75 2 := Agg.of (by kernel_rfl) (by kernel_rfl)
theorem szf75 : (Tryd.prog.info? 75).map (·.size) = some 2 := by kernel_rfl
theorem zt106 : ZT Tryd.prog 106 [.string ⟨#[]⟩, .string ⟨#[]⟩, .string ⟨#[]⟩, .int .i64 0, .int .i64 0, .string ⟨#[]⟩, .int .i64 0, .bool false, .string ⟨#[]⟩, .int .i64 0] := ZT.of (z := .agg #[.string ⟨#[]⟩, .string ⟨#[]⟩, .string ⟨#[]⟩, .int .i64 0, .int .i64 0, .string ⟨#[]⟩, .int .i64 0, .bool false, .string ⟨#[]⟩, .int .i64 0]) (by kernel_rfl) rfl
theorem fa106_0 : FA Tryd.prog 106 0 0 := FA.of (T := 9) (k := 0) (by kernel_rfl) (by kernel_rfl)
theorem fn42 : FN Tryd.prog 42 := FN.of Tryd.func42 (by kernel_rfl) (by kernel_rfl)
theorem fa106_1 : FA Tryd.prog 106 1 1 := FA.of (T := 75) (k := 1) (by kernel_rfl) (by kernel_rfl)
theorem fn18 : FN Tryd.prog 18 := FN.of Tryd.func18 (by kernel_rfl) (by kernel_rfl)
theorem fa106_2 : FA Tryd.prog 106 2 3 := FA.of (T := 32) (k := 5) (by kernel_rfl) (by kernel_rfl)
theorem fa133_3 : FA Tryd.prog 133 3 9 := FA.of (T := 3) (k := 0) (by kernel_rfl) (by kernel_rfl)
theorem fa106_3 : FA Tryd.prog 106 3 9 := FA.of (T := 3) (k := 0) (by kernel_rfl) (by kernel_rfl)
theorem agg106 : Agg Tryd.prog 106 10 := Agg.of (by kernel_rfl) (by kernel_rfl)
theorem szf106 : (Tryd.prog.info? 106).map (·.size) = some 10 := by kernel_rfl
theorem elt58 : ElT Tryd.prog 58 106 (⟨[], ⟨[], []⟩, ⟨0, 0, [], 0, false, []⟩, 0⟩ : TEntry) 120 := ElT.of (zv := .agg #[.string ⟨#[]⟩, .string ⟨#[]⟩, .string ⟨#[]⟩, .int .i64 0, .int .i64 0, .string ⟨#[]⟩, .int .i64 0, .bool false, .string ⟨#[]⟩, .int .i64 0]) (by kernel_rfl) (by kernel_rfl) rfl (fun w => own_flat (TEntry.zok w))
theorem fn104 : FN Tryd.prog 104 := FN.of Tryd.func104 (by kernel_rfl) (by kernel_rfl)
theorem slt58 : SlT Tryd.prog 58 106 10 := ⟨by kernel_rfl, by kernel_rfl⟩
theorem zt60 : ZT Tryd.prog 60 [.slice none 0 0] := ZT.of (z := .agg #[.slice none 0 0]) (by kernel_rfl) rfl
theorem fn74 : FN Tryd.prog 74 := FN.of Tryd.func74 (by kernel_rfl) (by kernel_rfl)
theorem fa60_0 : FA Tryd.prog 60 0 0 := FA.of (T := 58) (k := 0) (by kernel_rfl) (by kernel_rfl)
theorem szf58 : (Tryd.prog.info? 58).map (·.size) = some 1 := by kernel_rfl
theorem agg60 : Agg Tryd.prog 60 1 := Agg.of (by kernel_rfl) (by kernel_rfl)
theorem szf60 : (Tryd.prog.info? 60).map (·.size) = some 1 := by kernel_rfl
theorem bool4 : Tryd.prog.underlying 4 = some .bool := by kernel_rfl
theorem fn123 : FN Tryd.prog 123 := FN.of Tryd.func123 (by kernel_rfl) (by kernel_rfl)
theorem fn122 : FN Tryd.prog 122 := FN.of Tryd.func122 (by kernel_rfl) (by kernel_rfl)
theorem slu58 : Tryd.prog.underlying 58 = some (.slice 106) := by kernel_rfl
theorem mixed : Tryd.prog.follows .mixedOrders = true := by kernel_rfl
theorem fn107 : FN Tryd.prog 107 := FN.of Tryd.func107 (by kernel_rfl) (by kernel_rfl)
theorem sca58 : Sca Tryd.prog 58 := Sca.of (by kernel_rfl) (by kernel_rfl)
theorem fn77 : FN Tryd.prog 77 := FN.of Tryd.func77 (by kernel_rfl) (by kernel_rfl)
theorem sll35 : SlLit Tryd.prog 35 9 1 [.string ⟨#[]⟩] := SlLit.of (zv := .string ⟨#[]⟩) (by kernel_rfl) (by kernel_rfl) (by kernel_rfl) rfl
theorem elt35 : ElT Tryd.prog 35 9 ([] : Str) 16 := ElT.of (zv := .string ⟨#[]⟩) (by kernel_rfl) (by kernel_rfl) rfl (fun w => own_flat (Nat.zero_le _))
theorem fn56 : FN Tryd.prog 56 := FN.of Tryd.func56 (by kernel_rfl) (by kernel_rfl)
theorem slu35 : Tryd.prog.underlying 35 = some (.slice 9) := by kernel_rfl
theorem slt35 : SlT Tryd.prog 35 9 1 := ⟨by kernel_rfl, by kernel_rfl⟩
theorem fn66 : FN Tryd.prog 66 := FN.of Tryd.func66 (by kernel_rfl) (by kernel_rfl)
theorem fa37_0 : FA Tryd.prog 37 0 0 := FA.of (T := 4) (k := 0) (by kernel_rfl) (by kernel_rfl)
theorem fa37_1 : FA Tryd.prog 37 1 1 := FA.of (T := 35) (k := 0) (by kernel_rfl) (by kernel_rfl)
theorem sca35 : Sca Tryd.prog 35 := Sca.of (by kernel_rfl) (by kernel_rfl)
theorem fa37_2 : FA Tryd.prog 37 2 2 := FA.of (T := 35) (k := 0) (by kernel_rfl) (by kernel_rfl)
theorem fa37_3 : FA Tryd.prog 37 3 3 := FA.of (T := 35) (k := 0) (by kernel_rfl) (by kernel_rfl)
theorem fa37_4 : FA Tryd.prog 37 4 4 := FA.of (T := 9) (k := 0) (by kernel_rfl) (by kernel_rfl)
theorem fn114 : FN Tryd.prog 114 := FN.of Tryd.func114 (by kernel_rfl) (by kernel_rfl)
theorem fn115 : FN Tryd.prog 115 := FN.of Tryd.func115 (by kernel_rfl) (by kernel_rfl)
theorem agg37 : Agg Tryd.prog 37 5 := Agg.of (by kernel_rfl) (by kernel_rfl)
theorem fn93 : FN Tryd.prog 93 := FN.of Tryd.func93 (by kernel_rfl) (by kernel_rfl)
theorem fn94 : FN Tryd.prog 94 := FN.of Tryd.func94 (by kernel_rfl) (by kernel_rfl)
theorem zt37 : ZT Tryd.prog 37 [.bool false, .slice none 0 0, .slice none 0 0, .slice none 0 0, .string ⟨#[]⟩] := ZT.of (z := .agg #[.bool false, .slice none 0 0, .slice none 0 0, .slice none 0 0, .string ⟨#[]⟩]) (by kernel_rfl) rfl
theorem bt37 : BT Tryd.prog 37 [.bool false, .slice none 0 0, .slice none 0 0, .slice none 0 0, .string ⟨#[]⟩] [(0, 1), (1, 1), (2, 1), (3, 1), (4, 1)] := BT.of (z := .agg #[.bool false, .slice none 0 0, .slice none 0 0, .slice none 0 0, .string ⟨#[]⟩]) (by kernel_rfl) (by kernel_rfl) rfl (fun w => by kernel_rfl)
theorem szf37 : (Tryd.prog.info? 37).map (·.size) = some 5 := by kernel_rfl
theorem fn50 : FN Tryd.prog 50 := FN.of Tryd.func50 (by kernel_rfl) (by kernel_rfl)
theorem fn58 : FN Tryd.prog 58 := FN.of Tryd.func58 (by kernel_rfl) (by kernel_rfl)
theorem fn20 : FN Tryd.prog 20 := FN.of Tryd.func20 (by kernel_rfl) (by kernel_rfl)
theorem eqin75 (d : Nat) (x y : TAddr) (w : World) : (Op.equalIn (d + 2) 75 (.agg #[S x.host, S x.path]) (.agg #[S y.host, S y.path])).run Tryd.prog w = .ok (decide (x = y)) w := by
  have hf : Tryd.prog.fieldsOf 75 = #[⟨ "Host", 9, 0, false, "", "", 0⟩, ⟨ "Path", 9, 1, false, "", "", 16⟩] := by kernel_rfl
  rw [run_equalIn_agg w (d + 1) 75 _ _ (by kernel_rfl) (by kernel_rfl), hf]
  simp [Op.eqFields, go_sem, TAddr.ext_iff]
  try ((repeat' split) <;> simp_all)
theorem eqt75 : EqT Tryd.prog 75 (α := TAddr) := run_eqt_of (eqin75 9998) (by kernel_rfl)
theorem fn72 : FN Tryd.prog 72 := FN.of Tryd.func72 (by kernel_rfl) (by kernel_rfl)
theorem fn17 : FN Tryd.prog 17 := FN.of Tryd.func17 (by kernel_rfl) (by kernel_rfl)
theorem fn73 : FN Tryd.prog 73 := FN.of Tryd.func73 (by kernel_rfl) (by kernel_rfl)
theorem sll58 : SlLit Tryd.prog 58 106 10 [.string ⟨#[]⟩, .string ⟨#[]⟩, .string ⟨#[]⟩, .int .i64 0, .int .i64 0, .string ⟨#[]⟩, .int .i64 0, .bool false, .string ⟨#[]⟩, .int .i64 0] := SlLit.of (zv := .agg #[.string ⟨#[]⟩, .string ⟨#[]⟩, .string ⟨#[]⟩, .int .i64 0, .int .i64 0, .string ⟨#[]⟩, .int .i64 0, .bool false, .string ⟨#[]⟩, .int .i64 0]) (by kernel_rfl) (by kernel_rfl) (by kernel_rfl) rfl
theorem bt60 : BT Tryd.prog 60 [.slice none 0 0] [(0, 1)] := BT.of (z := .agg #[.slice none 0 0]) (by kernel_rfl) (by kernel_rfl) rfl (fun w => by kernel_rfl)
theorem fn80 : FN Tryd.prog 80 := FN.of Tryd.func80 (by kernel_rfl) (by kernel_rfl)
theorem fn31 : FN Tryd.prog 31 := FN.of Tryd.func31 (by kernel_rfl) (by kernel_rfl)
theorem bt106 : BT Tryd.prog 106 [.string ⟨#[]⟩, .string ⟨#[]⟩, .string ⟨#[]⟩, .int .i64 0, .int .i64 0, .string ⟨#[]⟩, .int .i64 0, .bool false, .string ⟨#[]⟩, .int .i64 0] [(0, 1), (1, 2), (3, 6), (9, 1)] := BT.of (z := .agg #[.string ⟨#[]⟩, .string ⟨#[]⟩, .string ⟨#[]⟩, .int .i64 0, .int .i64 0, .string ⟨#[]⟩, .int .i64 0, .bool false, .string ⟨#[]⟩, .int .i64 0]) (by kernel_rfl) (by kernel_rfl) rfl (fun w => by kernel_rfl)
theorem fn137 : FN Tryd.prog 137 := FN.of Tryd.func137 (by kernel_rfl) (by kernel_rfl)
theorem fn57 : FN Tryd.prog 57 := FN.of Tryd.func57 (by kernel_rfl) (by kernel_rfl)
theorem fn68 : FN Tryd.prog 68 := FN.of Tryd.func68 (by kernel_rfl) (by kernel_rfl)
theorem fn128 : FN Tryd.prog 128 := FN.of Tryd.func128 (by kernel_rfl) (by kernel_rfl)
theorem fn129 : FN Tryd.prog 129 := FN.of Tryd.func129 (by kernel_rfl) (by kernel_rfl)
theorem fn117 : FN Tryd.prog 117 := FN.of Tryd.func117 (by kernel_rfl) (by kernel_rfl)
theorem fn118 : FN Tryd.prog 118 := FN.of Tryd.func118 (by kernel_rfl) (by kernel_rfl)
theorem fn96 : FN Tryd.prog 96 := FN.of Tryd.func96 (by kernel_rfl) (by kernel_rfl)
theorem fn97 : FN Tryd.prog 97 := FN.of Tryd.func97 (by kernel_rfl) (by kernel_rfl)
theorem szf35 : (Tryd.prog.info? 35).map (·.size) = some 1 := by kernel_rfl
theorem fn52 : FN Tryd.prog 52 := FN.of Tryd.func52 (by kernel_rfl) (by kernel_rfl)
theorem arr93 : Tryd.prog.underlying 93 = some (.array 3 35) := by kernel_rfl
theorem zt93 : ZT Tryd.prog 93 [.slice none 0 0, .slice none 0 0, .slice none 0 0] := ZT.of (z := .agg #[.slice none 0 0, .slice none 0 0, .slice none 0 0]) (by kernel_rfl) rfl
theorem szf93 : (Tryd.prog.info? 93).map (·.size) = some 3 := by kernel_rfl
theorem fn59 : FN Tryd.prog 59 := FN.of Tryd.func59 (by kernel_rfl) (by kernel_rfl)
theorem fn60 : FN Tryd.prog 60 := FN.of Tryd.func60 (by kernel_rfl) (by kernel_rfl)
theorem fn61 : FN Tryd.prog 61 := FN.of Tryd.func61 (by kernel_rfl) (by kernel_rfl)
theorem fn21 : FN Tryd.prog 21 := FN.of Tryd.func21 (by kernel_rfl) (by kernel_rfl)
theorem fn105 : FN Tryd.prog 105 := FN.of Tryd.func105 (by kernel_rfl) (by kernel_rfl)
theorem fn106 : FN Tryd.prog 106 := FN.of Tryd.func106 (by kernel_rfl) (by kernel_rfl)
theorem fn75 : FN Tryd.prog 75 := FN.of Tryd.func75 (by kernel_rfl) (by kernel_rfl)
theorem fn19 : FN Tryd.prog 19 := FN.of Tryd.func19 (by kernel_rfl) (by kernel_rfl)
theorem fn76 : FN Tryd.prog 76 := FN.of Tryd.func76 (by kernel_rfl) (by kernel_rfl)
theorem fn81 : FN Tryd.prog 81 := FN.of Tryd.func81 (by kernel_rfl) (by kernel_rfl)
theorem fn33 : FN Tryd.prog 33 := FN.of Tryd.func33 (by kernel_rfl) (by kernel_rfl)
theorem u8t5 : Tryd.prog.underlying 5 = some (.int .u8) := by kernel_rfl
theorem sll120 : SlLit Tryd.prog 120 5 1 [.int .u8 0] := SlLit.of (zv := .int .u8 0) (by kernel_rfl) (by kernel_rfl) (by kernel_rfl) rfl
theorem slu120 : Tryd.prog.underlying 120 = some (.slice 5) := by kernel_rfl
theorem fn55 : FN Tryd.prog 55 := FN.of Tryd.func55 (by kernel_rfl) (by kernel_rfl)
theorem fn82 : FN Tryd.prog 82 := FN.of Tryd.func82 (by kernel_rfl) (by kernel_rfl)
theorem fn83 : FN Tryd.prog 83 := FN.of Tryd.func83 (by kernel_rfl) (by kernel_rfl)
theorem agg55 : Agg Tryd.prog 55 1 := Agg.of (by kernel_rfl) (by kernel_rfl)
theorem fn30 : FN Tryd.prog 30 := FN.of Tryd.func30 (by kernel_rfl) (by kernel_rfl)
theorem fn32 : FN Tryd.prog 32 := FN.of Tryd.func32 (by kernel_rfl) (by kernel_rfl)
theorem fn41 : FN Tryd.prog 41 := FN.of Tryd.func41 (by kernel_rfl) (by kernel_rfl)
theorem fn43 : FN Tryd.prog 43 := FN.of Tryd.func43 (by kernel_rfl) (by kernel_rfl)
theorem fn34 : FN Tryd.prog 34 := FN.of Tryd.func34 (by kernel_rfl) (by kernel_rfl)
theorem fn44 : FN Tryd.prog 44 := FN.of Tryd.func44 (by kernel_rfl) (by kernel_rfl)
theorem fn45 : FN Tryd.prog 45 := FN.of Tryd.func45 (by kernel_rfl) (by kernel_rfl)

end Go.Sw
