/- Facts on the types and functions of this translation, each closed. No conditions. -/
import Derived.Test.YtdpifpainiiblaaGreatDoorRows
import Derived.Test.YtdpifpainiiblaaGreatDoorLibW
import Derived.Test.YtdpifpainiiblaaGreatDoorLibL
import Derived.Test.YtdpifpainiiblaaGreatDoorLibMM
import Derived.Test.YtdpifpainiiblaaGreatDoorSh
import Derived.WalkSpells
namespace Go.Sw
open Go Go.RowKit Go.Proofs

theorem Q1 {p : Prop} (h : p := by repeat (first | exact List.mem_cons_self | apply List.mem_cons_of_mem)) : p := h
theorem Q2 {p : Prop} (h : p := by repeat (first | exact Sel.nil | (apply Sel.cons; (repeat (first | exact Ext.here | apply Ext.there))))) : p := h
theorem Q4 {p : Prop} (h : p := by repeat (first | exact Fill.nil | (apply Fill.cons; rfl; rfl; rfl; repeat (first | (apply SetAt.here; repeat (first | exact Over.nil | apply Over.cons)) | apply SetAt.there)))) : p := h
theorem Q3 {p : Prop} (h : p := by repeat (first | (apply SetAt.here; repeat (first | exact Over.nil | apply Over.cons)) | apply SetAt.there)) : p := h
theorem Q5 {p : Prop} (h : p := by repeat (first | exact Repl.here | apply Repl.there)) : p := h
theorem Q6 {p : Prop} (h : p := by kernel_rfl) : p := h
theorem Q7 {p : Prop} (h : p := by omega) : p := h
theorem Q0 {p : Prop} (h : p := by rfl) : p := h
theorem Qm {P : Program} {n : Nat} {ops : Array Oper} {Q : Exit → Act → World → Prop} {rest : List Oper} {e : Env} {w : World} {t : Nat} {ty : TypeId} {pos : String} {aft : Array Edge} {x : Operand} {v : Value} (h : WL P n ops Q rest ((t, v) :: e) w) (ht : Nat.blt t n = true := by rfl) (hx : ev? e x = some v := by rfl) : WL P n ops Q (⟨some t, .move x, ty, pos, aft, none⟩ :: rest) e w := WL.p ht (Yl.move hx) h
theorem Qa {P : Program} {n : Nat} {ops : Array Oper} {Q : Exit → Act → World → Prop} {rest : List Oper} {e : Env} {w : World} {t : Nat} {ty : TypeId} {pos : String} {aft : Array Edge} {x : Operand} {v : Value} (h : WL P n ops Q rest ((t, v) :: e) w) (ht : Nat.blt t n = true := by rfl) (hx : ev? e x = some v := by rfl) : WL P n ops Q (⟨some t, .assign x, ty, pos, aft, none⟩ :: rest) e w := WL.p ht (Yl.assign hx) h
theorem slu22 : Tryz.prog.underlying 22 = some (.slice 5) := by kernel_rfl
theorem slt22 : SlT Tryz.prog 22 5 1 := ⟨by kernel_rfl, by kernel_rfl⟩
theorem sca5 : Sca Tryz.prog 5 := Sca.of (by kernel_rfl) (by kernel_rfl)
theorem i64t3 : Tryz.prog.underlying 3 = some (.int .i64) := by kernel_rfl
theorem bt93 : BT Tryz.prog 93 [.slice none 0 0, .int .i64 0, .int .i64 0] [(0, 1), (1, 1), (2, 1)] := BT.of (z := .agg #[.slice none 0 0, .int .i64 0, .int .i64 0]) (by kernel_rfl) (by kernel_rfl) rfl (fun w => by kernel_rfl)
theorem fa93_2 : FA Tryz.prog 93 2 2 := FA.of (T := 3) (k := 0) (by kernel_rfl) (by kernel_rfl)
theorem sca3 : Sca Tryz.prog 3 := Sca.of (by kernel_rfl) (by kernel_rfl)
theorem szf3 : (Tryz.prog.info? 3).map (·.size) = some 1 := by kernel_rfl
theorem mixed : Tryz.prog.follows .mixedOrders = true := by kernel_rfl
theorem fa93_1 : FA Tryz.prog 93 1 1 := FA.of (T := 3) (k := 0) (by kernel_rfl) (by kernel_rfl)
theorem fa93_0 : FA Tryz.prog 93 0 0 := FA.of (T := 22) (k := 0) (by kernel_rfl) (by kernel_rfl)
theorem sca22 : Sca Tryz.prog 22 := Sca.of (by kernel_rfl) (by kernel_rfl)
theorem fn72 : FN Tryz.prog 72 := FN.of Tryz.func72 (by kernel_rfl) (by kernel_rfl)
theorem fn46 : FN Tryz.prog 46 := FN.of Tryz.func46 (by kernel_rfl) (by kernel_rfl)
theorem slu48 : Tryz.prog.underlying 48 = some (.slice 9) := by kernel_rfl
theorem slt48 : SlT Tryz.prog 48 9 1 := ⟨by kernel_rfl, by kernel_rfl⟩
theorem sca9 : Sca Tryz.prog 9 := Sca.of (by kernel_rfl) (by kernel_rfl)
theorem sll48 : SlLit Tryz.prog 48 9 1 [.string ⟨#[]⟩] := SlLit.of (zv := .string ⟨#[]⟩) (by kernel_rfl) (by kernel_rfl) (by kernel_rfl) rfl
theorem fn28 : FN Tryz.prog 28 := FN.of Tryz.func28 (by kernel_rfl) (by kernel_rfl)
theorem fn25 : FN Tryz.prog 25 := FN.of Tryz.func25 (by kernel_rfl) (by kernel_rfl)
theorem fn26 : FN Tryz.prog 26 := FN.of Tryz.func26 (by kernel_rfl) (by kernel_rfl)
theorem fn27 : FN Tryz.prog 27 := FN.of Tryz.func27 (by kernel_rfl) (by kernel_rfl)
theorem fn63 : FN Tryz.prog 63 := FN.of Tryz.func63 (by kernel_rfl) (by kernel_rfl)
theorem fn61 : FN Tryz.prog 61 := FN.of Tryz.func61 (by kernel_rfl) (by kernel_rfl)
theorem ifu96 : Tryz.prog.underlying 96 = some (.interface (Tryz.prog.methodsAt 96)) := by kernel_rfl
theorem fn40 : FN Tryz.prog 40 := FN.of Tryz.func40 (by kernel_rfl) (by kernel_rfl)
theorem str9 : Tryz.prog.underlying 9 = some .string := by kernel_rfl
theorem fn33 : FN Tryz.prog 33 := FN.of Tryz.func33 (by kernel_rfl) (by kernel_rfl)
theorem zt27 : ZT Tryz.prog 27 [.slice none 0 0] := ZT.of (z := .agg #[.slice none 0 0]) (by kernel_rfl) rfl
theorem bt27 : BT Tryz.prog 27 [.slice none 0 0] [(0, 1)] := BT.of (z := .agg #[.slice none 0 0]) (by kernel_rfl) (by kernel_rfl) rfl (fun w => by kernel_rfl)
theorem szf27 : (Tryz.prog.info? 27).map (·.size) = some 1 := by kernel_rfl
theorem fn29 : FN Tryz.prog 29 := FN.of Tryz.func29 (by kernel_rfl) (by kernel_rfl)
theorem fn30 : FN Tryz.prog 30 := FN.of Tryz.func30 (by kernel_rfl) (by kernel_rfl)
theorem fn31 : FN Tryz.prog 31 := FN.of Tryz.func31 (by kernel_rfl) (by kernel_rfl)
theorem fn32 : FN Tryz.prog 32 := FN.of Tryz.func32 (by kernel_rfl) (by kernel_rfl)
theorem fa27_0 : FA Tryz.prog 27 0 0 := FA.of (T := 25) (k := 0) (by kernel_rfl) (by kernel_rfl)
theorem sca25 : Sca Tryz.prog 25 := Sca.of (by kernel_rfl) (by kernel_rfl)
theorem slu25 : Tryz.prog.underlying 25 = some (.slice 36) := by kernel_rfl
theorem bt36 : BT Tryz.prog 36 [.string ⟨#[]⟩, .int .i64 0] [(0, 1), (1, 1)] := BT.of (z := .agg #[.string ⟨#[]⟩, .int .i64 0]) (by kernel_rfl) (by kernel_rfl) rfl (fun w => by kernel_rfl)
theorem sll25 : SlLit Tryz.prog 25 36 2 [.string ⟨#[]⟩, .int .i64 0] := SlLit.of (zv := .agg #[.string ⟨#[]⟩, .int .i64 0]) (by kernel_rfl) (by kernel_rfl) (by kernel_rfl) rfl
theorem elt25 : ElT Tryz.prog 25 36 (⟨[], 0⟩ : TRule) 24 := ElT.of (zv := .agg #[.string ⟨#[]⟩, .int .i64 0]) (by kernel_rfl) (by kernel_rfl) rfl (fun w => own_flat (TRule.zok w))
theorem szf25 : (Tryz.prog.info? 25).map (·.size) = some 1 := by kernel_rfl
theorem agg27 : Agg Tryz.prog 27 1 := Agg.of (by kernel_rfl) (by kernel_rfl)
theorem slu30 : Tryz.prog.underlying 30 = some (.slice 27) := by kernel_rfl
theorem slt30 : SlT Tryz.prog 30 27 1 := ⟨by kernel_rfl, by kernel_rfl⟩
theorem slt25 : SlT Tryz.prog 25 36 2 := ⟨by kernel_rfl, by kernel_rfl⟩
theorem agg36 : Agg Tryz.prog 36 2 := Agg.of (by kernel_rfl) (by kernel_rfl)
theorem eqin36 (d : Nat) (x y : TRule) (w : World) : (Op.equalIn (d + 2) 36 (.agg #[S x.name, I x.color]) (.agg #[S y.name, I y.color])).run Tryz.prog w = .ok (decide (x = y)) w := by
  have hf : Tryz.prog.fieldsOf 36 = #[⟨ "Name", 9, 0, false, "", "", 0⟩, ⟨ "Color", 3, 1, false, "", "", 16⟩] := by kernel_rfl
  rw [run_equalIn_agg w (d + 1) 36 _ _ (by kernel_rfl) (by kernel_rfl), hf]
  simp [Op.eqFields, go_sem, TRule.ext_iff]
  try ((repeat' split) <;> simp_all)
theorem eqt36 : EqT Tryz.prog 36 (α := TRule) := run_eqt_of (eqin36 9998) (by kernel_rfl)
theorem fn62 : FN Tryz.prog 62 := FN.of Tryz.func62 (by kernel_rfl) (by kernel_rfl)
theorem fn34 : FN Tryz.prog 34 := FN.of Tryz.func34 (by kernel_rfl) (by kernel_rfl)
theorem fn35 : FN Tryz.prog 35 := FN.of Tryz.func35 (by kernel_rfl) (by kernel_rfl)
theorem elt48 : ElT Tryz.prog 48 9 ([] : Str) 16 := ElT.of (zv := .string ⟨#[]⟩) (by kernel_rfl) (by kernel_rfl) rfl (fun w => own_flat (Nat.zero_le _))
theorem fn39 : FN Tryz.prog 39 := FN.of Tryz.func39 (by kernel_rfl) (by kernel_rfl)
theorem u8t5 : Tryz.prog.underlying 5 = some (.int .u8) := by kernel_rfl
theorem sll22 : SlLit Tryz.prog 22 5 1 [.int .u8 0] := SlLit.of (zv := .int .u8 0) (by kernel_rfl) (by kernel_rfl) (by kernel_rfl) rfl
theorem fn57 : FN Tryz.prog 57 := FN.of Tryz.func57 (by kernel_rfl) (by kernel_rfl)
theorem fn36 : FN Tryz.prog 36 := FN.of Tryz.func36 (by kernel_rfl) (by kernel_rfl)
theorem fn37 : FN Tryz.prog 37 := FN.of Tryz.func37 (by kernel_rfl) (by kernel_rfl)
theorem fn38 : FN Tryz.prog 38 := FN.of Tryz.func38 (by kernel_rfl) (by kernel_rfl)
theorem zt36 : ZT Tryz.prog 36 [.string ⟨#[]⟩, .int .i64 0] := ZT.of (z := .agg #[.string ⟨#[]⟩, .int .i64 0]) (by kernel_rfl) rfl
theorem szf36 : (Tryz.prog.info? 36).map (·.size) = some 2 := by kernel_rfl
theorem fa36_0 : FA Tryz.prog 36 0 0 := FA.of (T := 9) (k := 0) (by kernel_rfl) (by kernel_rfl)
theorem fa36_1 : FA Tryz.prog 36 1 1 := FA.of (T := 3) (k := 0) (by kernel_rfl) (by kernel_rfl)
theorem fn41 : FN Tryz.prog 41 := FN.of Tryz.func41 (by kernel_rfl) (by kernel_rfl)
theorem sll30 : SlLit Tryz.prog 30 27 1 [.slice none 0 0] := SlLit.of (zv := .agg #[.slice none 0 0]) (by kernel_rfl) (by kernel_rfl) (by kernel_rfl) rfl
theorem fn9 : FN Tryz.prog 9 := FN.of Tryz.func9 (by kernel_rfl) (by kernel_rfl)
theorem elt30 : ElT Tryz.prog 30 27 (⟨⟨[], none, 0⟩⟩ : PSheet) 24 := ElT.of (zv := .agg #[.slice none 0 0]) (by kernel_rfl) (by kernel_rfl) rfl (fun w => PSheet.zown w)
theorem fn42 : FN Tryz.prog 42 := FN.of Tryz.func42 (by kernel_rfl) (by kernel_rfl)
theorem fn43 : FN Tryz.prog 43 := FN.of Tryz.func43 (by kernel_rfl) (by kernel_rfl)
theorem fn44 : FN Tryz.prog 44 := FN.of Tryz.func44 (by kernel_rfl) (by kernel_rfl)
theorem fn14 : FN Tryz.prog 14 := FN.of Tryz.func14 (by kernel_rfl) (by kernel_rfl)
theorem sll82 : SlLit Tryz.prog 82 121 2 [.string ⟨#[]⟩, .string ⟨#[]⟩] := SlLit.of (zv := .agg #[.string ⟨#[]⟩, .string ⟨#[]⟩]) (by kernel_rfl) (by kernel_rfl) (by kernel_rfl) rfl
theorem elt82 : ElT Tryz.prog 82 121 (⟨[], []⟩ : TAttr) 32 := ElT.of (zv := .agg #[.string ⟨#[]⟩, .string ⟨#[]⟩]) (by kernel_rfl) (by kernel_rfl) rfl (fun w => own_flat (TAttr.zok w))
theorem zt40 : ZT Tryz.prog 40 [.slice none 0 0, .slice none 0 0] := ZT.of (z := .agg #[.slice none 0 0, .slice none 0 0]) (by kernel_rfl) rfl
theorem sll38 : SlLit Tryz.prog 38 3 1 [.int .i64 0] := SlLit.of (zv := .int .i64 0) (by kernel_rfl) (by kernel_rfl) (by kernel_rfl) rfl
theorem fa40_1 : FA Tryz.prog 40 1 1 := FA.of (T := 38) (k := 0) (by kernel_rfl) (by kernel_rfl)
theorem sca38 : Sca Tryz.prog 38 := Sca.of (by kernel_rfl) (by kernel_rfl)
theorem elt38 : ElT Tryz.prog 38 3 (0 : Int) 8 := ElT.of (zv := .int .i64 0) (by kernel_rfl) (by kernel_rfl) rfl (fun w => own_flat (⟨by decide, by decide⟩))
theorem bt40 : BT Tryz.prog 40 [.slice none 0 0, .slice none 0 0] [(0, 1), (1, 1)] := BT.of (z := .agg #[.slice none 0 0, .slice none 0 0]) (by kernel_rfl) (by kernel_rfl) rfl (fun w => by kernel_rfl)
theorem szf40 : (Tryz.prog.info? 40).map (·.size) = some 2 := by kernel_rfl
theorem fa40_0 : FA Tryz.prog 40 0 0 := FA.of (T := 37) (k := 0) (by kernel_rfl) (by kernel_rfl)
theorem sca37 : Sca Tryz.prog 37 := Sca.of (by kernel_rfl) (by kernel_rfl)
theorem slu37 : Tryz.prog.underlying 37 = some (.slice 84) := by kernel_rfl
theorem slt37 : SlT Tryz.prog 37 84 4 := ⟨by kernel_rfl, by kernel_rfl⟩
theorem agg84 : Agg Tryz.prog 84 4 := Agg.of (by kernel_rfl) (by kernel_rfl)
theorem zt84 : ZT Tryz.prog 84 [.string ⟨#[]⟩, .string ⟨#[]⟩, .int .i64 0, .slice none 0 0] := ZT.of (z := .agg #[.string ⟨#[]⟩, .string ⟨#[]⟩, .int .i64 0, .slice none 0 0]) (by kernel_rfl) rfl
theorem szf84 : (Tryz.prog.info? 84).map (·.size) = some 4 := by kernel_rfl
theorem fa84_3 : FA Tryz.prog 84 3 3 := FA.of (T := 82) (k := 0) (by kernel_rfl) (by kernel_rfl)
theorem sca82 : Sca Tryz.prog 82 := Sca.of (by kernel_rfl) (by kernel_rfl)
theorem fn78 : FN Tryz.prog 78 := FN.of Tryz.func78 (by kernel_rfl) (by kernel_rfl)
theorem szf82 : (Tryz.prog.info? 82).map (·.size) = some 1 := by kernel_rfl
theorem sll37 : SlLit Tryz.prog 37 84 4 [.string ⟨#[]⟩, .string ⟨#[]⟩, .int .i64 0, .slice none 0 0] := SlLit.of (zv := .agg #[.string ⟨#[]⟩, .string ⟨#[]⟩, .int .i64 0, .slice none 0 0]) (by kernel_rfl) (by kernel_rfl) (by kernel_rfl) rfl
theorem elt37 : ElT Tryz.prog 37 84 (⟨[], [], 0, ⟨[], none, 0⟩⟩ : PNode) 64 := ElT.of (zv := .agg #[.string ⟨#[]⟩, .string ⟨#[]⟩, .int .i64 0, .slice none 0 0]) (by kernel_rfl) (by kernel_rfl) rfl (fun w => PNode.zown w)
theorem szf37 : (Tryz.prog.info? 37).map (·.size) = some 1 := by kernel_rfl
theorem agg40 : Agg Tryz.prog 40 2 := Agg.of (by kernel_rfl) (by kernel_rfl)
theorem slu38 : Tryz.prog.underlying 38 = some (.slice 3) := by kernel_rfl
theorem slt38 : SlT Tryz.prog 38 3 1 := ⟨by kernel_rfl, by kernel_rfl⟩
theorem fa84_0 : FA Tryz.prog 84 0 0 := FA.of (T := 9) (k := 0) (by kernel_rfl) (by kernel_rfl)
theorem szf38 : (Tryz.prog.info? 38).map (·.size) = some 1 := by kernel_rfl
theorem fn55 : FN Tryz.prog 55 := FN.of Tryz.func55 (by kernel_rfl) (by kernel_rfl)
theorem fa112_0 : FA Tryz.prog 112 0 0 := FA.of (T := 3) (k := 0) (by kernel_rfl) (by kernel_rfl)
theorem fa112_1 : FA Tryz.prog 112 1 1 := FA.of (T := 9) (k := 0) (by kernel_rfl) (by kernel_rfl)
theorem fn103 : FN Tryz.prog 103 := FN.of Tryz.func103 (by kernel_rfl) (by kernel_rfl)
theorem fn104 : FN Tryz.prog 104 := FN.of Tryz.func104 (by kernel_rfl) (by kernel_rfl)
theorem bt84 : BT Tryz.prog 84 [.string ⟨#[]⟩, .string ⟨#[]⟩, .int .i64 0, .slice none 0 0] [(0, 1), (1, 1), (2, 1), (3, 1)] := BT.of (z := .agg #[.string ⟨#[]⟩, .string ⟨#[]⟩, .int .i64 0, .slice none 0 0]) (by kernel_rfl) (by kernel_rfl) rfl (fun w => by kernel_rfl)
theorem szf9 : (Tryz.prog.info? 9).map (·.size) = some 1 := by kernel_rfl
theorem fa112_2 : FA Tryz.prog 112 2 2 := FA.of (T := 82) (k := 0) (by kernel_rfl) (by kernel_rfl)
theorem fa112_3 : FA Tryz.prog 112 3 3 := FA.of (T := 9) (k := 0) (by kernel_rfl) (by kernel_rfl)
theorem fa84_1 : FA Tryz.prog 84 1 1 := FA.of (T := 9) (k := 0) (by kernel_rfl) (by kernel_rfl)
theorem slu141 : Tryz.prog.underlying 141 = some (.slice 112) := by kernel_rfl
theorem slt141 : SlT Tryz.prog 141 112 4 := ⟨by kernel_rfl, by kernel_rfl⟩
theorem agg112 : Agg Tryz.prog 112 4 := Agg.of (by kernel_rfl) (by kernel_rfl)
theorem fn71 : FN Tryz.prog 71 := FN.of Tryz.func71 (by kernel_rfl) (by kernel_rfl)
theorem slu82 : Tryz.prog.underlying 82 = some (.slice 121) := by kernel_rfl
theorem slt82 : SlT Tryz.prog 82 121 2 := ⟨by kernel_rfl, by kernel_rfl⟩
theorem fa121_0 : FA Tryz.prog 121 0 0 := FA.of (T := 9) (k := 0) (by kernel_rfl) (by kernel_rfl)
theorem fa121_1 : FA Tryz.prog 121 1 1 := FA.of (T := 9) (k := 0) (by kernel_rfl) (by kernel_rfl)
theorem zt112 : ZT Tryz.prog 112 [.int .i64 0, .string ⟨#[]⟩, .slice none 0 0, .string ⟨#[]⟩] := ZT.of (z := .agg #[.int .i64 0, .string ⟨#[]⟩, .slice none 0 0, .string ⟨#[]⟩]) (by kernel_rfl) rfl
theorem bt112 : BT Tryz.prog 112 [.int .i64 0, .string ⟨#[]⟩, .slice none 0 0, .string ⟨#[]⟩] [(0, 1), (1, 1), (2, 1), (3, 1)] := BT.of (z := .agg #[.int .i64 0, .string ⟨#[]⟩, .slice none 0 0, .string ⟨#[]⟩]) (by kernel_rfl) (by kernel_rfl) rfl (fun w => by kernel_rfl)
theorem szf112 : (Tryz.prog.info? 112).map (·.size) = some 4 := by kernel_rfl
theorem fn161 : FN Tryz.prog 161 := FN.of Tryz.func161 (by kernel_rfl) (by kernel_rfl)
theorem fn162 : FN Tryz.prog 162 := FN.of Tryz.func162 (by kernel_rfl) (by kernel_rfl)
theorem bt121 : BT Tryz.prog 121 [.string ⟨#[]⟩, .string ⟨#[]⟩] [(0, 1), (1, 1)] := BT.of (z := .agg #[.string ⟨#[]⟩, .string ⟨#[]⟩]) (by kernel_rfl) (by kernel_rfl) rfl (fun w => by kernel_rfl)
theorem zt184 : ZT Tryz.prog 184 [.string ⟨#[]⟩] := ZT.of (z := .agg #[.string ⟨#[]⟩]) (by kernel_rfl) rfl
theorem sll141 : SlLit Tryz.prog 141 112 4 [.int .i64 0, .string ⟨#[]⟩, .slice none 0 0, .string ⟨#[]⟩] := SlLit.of (zv := .agg #[.int .i64 0, .string ⟨#[]⟩, .slice none 0 0, .string ⟨#[]⟩]) (by kernel_rfl) (by kernel_rfl) (by kernel_rfl) rfl
theorem fa184_0 : FA Tryz.prog 184 0 0 := FA.of (T := 9) (k := 0) (by kernel_rfl) (by kernel_rfl)
theorem fn147 : FN Tryz.prog 147 := FN.of Tryz.func147 (by kernel_rfl) (by kernel_rfl)
theorem elt141 : ElT Tryz.prog 141 112 (⟨0, [], ⟨[], none, 0⟩, []⟩ : PToken) 64 := ElT.of (zv := .agg #[.int .i64 0, .string ⟨#[]⟩, .slice none 0 0, .string ⟨#[]⟩]) (by kernel_rfl) (by kernel_rfl) rfl (fun w => PToken.zown w)
theorem bt184 : BT Tryz.prog 184 [.string ⟨#[]⟩] [(0, 1)] := BT.of (z := .agg #[.string ⟨#[]⟩]) (by kernel_rfl) (by kernel_rfl) rfl (fun w => by kernel_rfl)
theorem szf184 : (Tryz.prog.info? 184).map (·.size) = some 1 := by kernel_rfl
theorem agg184 : Agg Tryz.prog 184 1 := Agg.of (by kernel_rfl) (by kernel_rfl)
theorem fn148 : FN Tryz.prog 148 := FN.of Tryz.func148 (by kernel_rfl) (by kernel_rfl)
theorem fn129 : FN Tryz.prog 129 := FN.of Tryz.func129 (by kernel_rfl) (by kernel_rfl)
theorem fn130 : FN Tryz.prog 130 := FN.of Tryz.func130 (by kernel_rfl) (by kernel_rfl)
theorem fn131 : FN Tryz.prog 131 := FN.of Tryz.func131 (by kernel_rfl) (by kernel_rfl)
theorem fn100 : FN Tryz.prog 100 := FN.of Tryz.func100 (by kernel_rfl) (by kernel_rfl)
theorem fn102 : FN Tryz.prog 102 := FN.of Tryz.func102 (by kernel_rfl) (by kernel_rfl)
theorem fn101 : FN Tryz.prog 101 := FN.of Tryz.func101 (by kernel_rfl) (by kernel_rfl)
theorem fn99 : FN Tryz.prog 99 := FN.of Tryz.func99 (by kernel_rfl) (by kernel_rfl)
theorem fn69 : FN Tryz.prog 69 := FN.of Tryz.func69 (by kernel_rfl) (by kernel_rfl)
theorem fn70 : FN Tryz.prog 70 := FN.of Tryz.func70 (by kernel_rfl) (by kernel_rfl)
theorem fn45 : FN Tryz.prog 45 := FN.of Tryz.func45 (by kernel_rfl) (by kernel_rfl)
theorem fa84_2 : FA Tryz.prog 84 2 2 := FA.of (T := 3) (k := 0) (by kernel_rfl) (by kernel_rfl)
theorem fn47 : FN Tryz.prog 47 := FN.of Tryz.func47 (by kernel_rfl) (by kernel_rfl)
theorem fn5 : FN Tryz.prog 5 := FN.of Tryz.func5 (by kernel_rfl) (by kernel_rfl)
theorem fn6 : FN Tryz.prog 6 := FN.of Tryz.func6 (by kernel_rfl) (by kernel_rfl)
theorem fn7 : FN Tryz.prog 7 := FN.of Tryz.func7 (by kernel_rfl) (by kernel_rfl)
theorem fn8 : FN Tryz.prog 8 := FN.of Tryz.func8 (by kernel_rfl) (by kernel_rfl)
theorem fn10 : FN Tryz.prog 10 := FN.of Tryz.func10 (by kernel_rfl) (by kernel_rfl)
theorem fn11 : FN Tryz.prog 11 := FN.of Tryz.func11 (by kernel_rfl) (by kernel_rfl)
theorem fn12 : FN Tryz.prog 12 := FN.of Tryz.func12 (by kernel_rfl) (by kernel_rfl)
theorem fn13 : FN Tryz.prog 13 := FN.of Tryz.func13 (by kernel_rfl) (by kernel_rfl)
theorem fn15 : FN Tryz.prog 15 := FN.of Tryz.func15 (by kernel_rfl) (by kernel_rfl)
theorem fn16 : FN Tryz.prog 16 := FN.of Tryz.func16 (by kernel_rfl) (by kernel_rfl)

end Go.Sw
