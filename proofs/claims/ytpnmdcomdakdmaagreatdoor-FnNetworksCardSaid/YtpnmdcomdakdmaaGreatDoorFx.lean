/- Facts on the types and functions of this translation, each closed. No conditions. -/
import Derived.Test.YtpnmdcomdakdmaaGreatDoorRows
import Derived.Test.YtpnmdcomdakdmaaGreatDoorLibW
import Derived.Test.YtpnmdcomdakdmaaGreatDoorLibL
import Derived.Test.YtpnmdcomdakdmaaGreatDoorSh
import Derived.Test.YtpnmdcomdakdmaaGreatDoorSc
import Derived.WalkSpells
namespace Go.Sw
open Go Go.RowKit Go.Proofs

theorem Q10 {p : Prop} (h : p := by first | assumption | omega | (simp only [lsz] at *; omega) | (simp only [lsz, strsz, TPolicy.size, TCache.size, TAddr.size, TRequest.size, TEntry.size, TResponse.size, TLine.size] at *; omega) | (simp only [lsz_map, TPage.size, TBuilder.size, TNode.size, TToken.size, TTokenizer.size, TServer.size, TFile.size, TNet.size, TCache.size, TSheet.size, strsz] at *; omega) | (simp only [lsz_map, TPage.size, TBuilder.size, TNode.size, TToken.size, TTokenizer.size, TServer.size, TFile.size, TNet.size, TCache.size, TSheet.size, strsz, lsz] at *; omega)) : p := h
theorem Q1 {p : Prop} (h : p := by repeat (first | exact List.mem_cons_self | apply List.mem_cons_of_mem)) : p := h
theorem Q2 {p : Prop} (h : p := by repeat (first | exact Sel.nil | (apply Sel.cons; (repeat (first | exact Ext.here | apply Ext.there))))) : p := h
theorem Q4 {p : Prop} (h : p := by repeat (first | exact Fill.nil | (apply Fill.cons; rfl; rfl; rfl; repeat (first | (apply SetAt.here; repeat (first | exact Over.nil | apply Over.cons)) | apply SetAt.there)))) : p := h
theorem Q3 {p : Prop} (h : p := by repeat (first | (apply SetAt.here; repeat (first | exact Over.nil | apply Over.cons)) | apply SetAt.there)) : p := h
theorem Q5 {p : Prop} (h : p := by repeat (first | exact Repl.here | apply Repl.there)) : p := h
theorem Q6 {p : Prop} (h : p := by kernel_rfl) : p := h
theorem Q7 {p : Prop} (h : p := by omega) : p := h
theorem Q0 {p : Prop} (h : p := by rfl) : p := h
theorem Qm {P : Program} {n : Nat} {ops : Array Oper} {Q : Exit → Act → World → Prop} {rest : List Oper} {e : Env} {w : World} {t : Nat} {ty : TypeId} {pos : String} {aft : Array Edge} {x : Operand} {v : Value} (h : WL P n ops Q rest ((t, v) :: e) w) (ht : Nat.blt t n = true := by rfl) (hx : ev? e x = some v := by rfl) : WL P n ops Q (⟨some t, .move x, ty, pos, aft, none⟩ :: rest) e w := WL.p ht (Yl.move hx) h
theorem Qa {P : Program} {n : Nat} {ops : Array Oper} {Q : Exit → Act → World → Prop} {rest : List Oper} {e : Env} {w : World} {t : Nat} {ty : TypeId} {pos : String} {aft : Array Edge} {x : Operand} {v : Value} (h : WL P n ops Q rest ((t, v) :: e) w) (ht : Nat.blt t n = true := by rfl) (hx : ev? e x = some v := by rfl) : WL P n ops Q (⟨some t, .assign x, ty, pos, aft, none⟩ :: rest) e w := WL.p ht (Yl.assign hx) h
theorem slu22 : Tryz.prog.underlying 22 = some (.slice 5) := by kernel_rfl
theorem slt22 : SlT Tryz.prog 22 5 1 := ⟨by kernel_rfl, by kernel_rfl⟩
theorem sca5 : Sca Tryz.prog 5 := Sca.of (by kernel_rfl) (by kernel_rfl)
theorem i64t3 : Tryz.prog.underlying 3 = some (.int .i64) := by kernel_rfl
theorem bt205 : BT Tryz.prog 205 [.slice none 0 0, .int .i64 0, .int .i64 0] [(0, 1), (1, 1), (2, 1)] := BT.of (z := .agg #[.slice none 0 0, .int .i64 0, .int .i64 0]) (by kernel_rfl) (by kernel_rfl) rfl (fun w => by kernel_rfl)
theorem fa205_2 : FA Tryz.prog 205 2 2 := FA.of (T := 3) (k := 0) (by kernel_rfl) (by kernel_rfl)
theorem sca3 : Sca Tryz.prog 3 := Sca.of (by kernel_rfl) (by kernel_rfl)
theorem szf3 : (Tryz.prog.info? 3).map (·.size) = some 1 := by kernel_rfl
theorem mixed : Tryz.prog.follows .mixedOrders = true := by kernel_rfl
theorem fa205_1 : FA Tryz.prog 205 1 1 := FA.of (T := 3) (k := 0) (by kernel_rfl) (by kernel_rfl)
theorem fa205_0 : FA Tryz.prog 205 0 0 := FA.of (T := 22) (k := 0) (by kernel_rfl) (by kernel_rfl)
theorem sca22 : Sca Tryz.prog 22 := Sca.of (by kernel_rfl) (by kernel_rfl)
theorem fn206 : FN Tryz.prog 206 := FN.of Tryz.func206 (by kernel_rfl) (by kernel_rfl)
theorem slu62 : Tryz.prog.underlying 62 = some (.slice 3) := by kernel_rfl
theorem fn118 : FN Tryz.prog 118 := FN.of Tryz.func118 (by kernel_rfl) (by kernel_rfl)
theorem slt62 : SlT Tryz.prog 62 3 1 := ⟨by kernel_rfl, by kernel_rfl⟩
theorem str9 : Tryz.prog.underlying 9 = some .string := by kernel_rfl
theorem fn95 : FN Tryz.prog 95 := FN.of Tryz.func95 (by kernel_rfl) (by kernel_rfl)
theorem fa39_0 : FA Tryz.prog 39 0 0 := FA.of (T := 9) (k := 0) (by kernel_rfl) (by kernel_rfl)
theorem sca9 : Sca Tryz.prog 9 := Sca.of (by kernel_rfl) (by kernel_rfl)
theorem fn110 : FN Tryz.prog 110 := FN.of Tryz.func110 (by kernel_rfl) (by kernel_rfl)
theorem fa39_1 : FA Tryz.prog 39 1 1 := FA.of (T := 9) (k := 0) (by kernel_rfl) (by kernel_rfl)
theorem sll24 : SlLit Tryz.prog 24 216 2 [.string ⟨#[]⟩, .slice none 0 0] := SlLit.of (zv := .agg #[.string ⟨#[]⟩, .slice none 0 0]) (by kernel_rfl) (by kernel_rfl) (by kernel_rfl) rfl
theorem slu24 : Tryz.prog.underlying 24 = some (.slice 216) := by kernel_rfl
theorem slt24 : SlT Tryz.prog 24 216 2 := ⟨by kernel_rfl, by kernel_rfl⟩
theorem fa216_0 : FA Tryz.prog 216 0 0 := FA.of (T := 9) (k := 0) (by kernel_rfl) (by kernel_rfl)
theorem fa216_1 : FA Tryz.prog 216 1 1 := FA.of (T := 214) (k := 0) (by kernel_rfl) (by kernel_rfl)
theorem sca214 : Sca Tryz.prog 214 := Sca.of (by kernel_rfl) (by kernel_rfl)
theorem sll214 : SlLit Tryz.prog 214 219 7 [.string ⟨#[]⟩, .int .i64 0, .int .i64 0, .string ⟨#[]⟩, .int .i64 0, .bool false, .string ⟨#[]⟩] := SlLit.of (zv := .agg #[.string ⟨#[]⟩, .int .i64 0, .int .i64 0, .string ⟨#[]⟩, .int .i64 0, .bool false, .string ⟨#[]⟩]) (by kernel_rfl) (by kernel_rfl) (by kernel_rfl) rfl
theorem elt214 : ElT Tryz.prog 214 219 (⟨[], ⟨0, 0, [], 0, false, []⟩⟩ : TFile) 80 := ElT.of (zv := .agg #[.string ⟨#[]⟩, .int .i64 0, .int .i64 0, .string ⟨#[]⟩, .int .i64 0, .bool false, .string ⟨#[]⟩]) (by kernel_rfl) (by kernel_rfl) rfl (fun w => own_flat (TFile.zok w))
theorem bt216 : BT Tryz.prog 216 [.string ⟨#[]⟩, .slice none 0 0] [(0, 1), (1, 1)] := BT.of (z := .agg #[.string ⟨#[]⟩, .slice none 0 0]) (by kernel_rfl) (by kernel_rfl) rfl (fun w => by kernel_rfl)
theorem elt24 : ElT Tryz.prog 24 216 (⟨[], ⟨[], none, 0⟩⟩ : PServer) 40 := ElT.of (zv := .agg #[.string ⟨#[]⟩, .slice none 0 0]) (by kernel_rfl) (by kernel_rfl) rfl (fun w => PServer.zown w)
theorem zt27 : ZT Tryz.prog 27 [.slice none 0 0] := ZT.of (z := .agg #[.slice none 0 0]) (by kernel_rfl) rfl
theorem sll25 : SlLit Tryz.prog 25 173 10 [.string ⟨#[]⟩, .string ⟨#[]⟩, .string ⟨#[]⟩, .int .i64 0, .int .i64 0, .string ⟨#[]⟩, .int .i64 0, .bool false, .string ⟨#[]⟩, .int .i64 0] := SlLit.of (zv := .agg #[.string ⟨#[]⟩, .string ⟨#[]⟩, .string ⟨#[]⟩, .int .i64 0, .int .i64 0, .string ⟨#[]⟩, .int .i64 0, .bool false, .string ⟨#[]⟩, .int .i64 0]) (by kernel_rfl) (by kernel_rfl) (by kernel_rfl) rfl
theorem fa27_0 : FA Tryz.prog 27 0 0 := FA.of (T := 25) (k := 0) (by kernel_rfl) (by kernel_rfl)
theorem sca25 : Sca Tryz.prog 25 := Sca.of (by kernel_rfl) (by kernel_rfl)
theorem elt25 : ElT Tryz.prog 25 173 (⟨[], ⟨[], []⟩, ⟨0, 0, [], 0, false, []⟩, 0⟩ : TEntry) 120 := ElT.of (zv := .agg #[.string ⟨#[]⟩, .string ⟨#[]⟩, .string ⟨#[]⟩, .int .i64 0, .int .i64 0, .string ⟨#[]⟩, .int .i64 0, .bool false, .string ⟨#[]⟩, .int .i64 0]) (by kernel_rfl) (by kernel_rfl) rfl (fun w => own_flat (TEntry.zok w))
theorem bt27 : BT Tryz.prog 27 [.slice none 0 0] [(0, 1)] := BT.of (z := .agg #[.slice none 0 0]) (by kernel_rfl) (by kernel_rfl) rfl (fun w => by kernel_rfl)
theorem szf27 : (Tryz.prog.info? 27).map (·.size) = some 1 := by kernel_rfl
theorem agg27 : Agg Tryz.prog 27 1 := Agg.of (by kernel_rfl) (by kernel_rfl)
theorem zt30 : ZT Tryz.prog 30 [.slice none 0 0, .slice none 0 0, .slice none 0 0, .int .i64 0] := ZT.of (z := .agg #[.slice none 0 0, .slice none 0 0, .slice none 0 0, .int .i64 0]) (by kernel_rfl) rfl
theorem fa30_0 : FA Tryz.prog 30 0 0 := FA.of (T := 24) (k := 0) (by kernel_rfl) (by kernel_rfl)
theorem sca24 : Sca Tryz.prog 24 := Sca.of (by kernel_rfl) (by kernel_rfl)
theorem fa30_1 : FA Tryz.prog 30 1 1 := FA.of (T := 27) (k := 0) (by kernel_rfl) (by kernel_rfl)
theorem fa30_2 : FA Tryz.prog 30 2 2 := FA.of (T := 28) (k := 0) (by kernel_rfl) (by kernel_rfl)
theorem sca28 : Sca Tryz.prog 28 := Sca.of (by kernel_rfl) (by kernel_rfl)
theorem fa30_3 : FA Tryz.prog 30 3 3 := FA.of (T := 3) (k := 0) (by kernel_rfl) (by kernel_rfl)
theorem fn186 : FN Tryz.prog 186 := FN.of Tryz.func186 (by kernel_rfl) (by kernel_rfl)
theorem fn187 : FN Tryz.prog 187 := FN.of Tryz.func187 (by kernel_rfl) (by kernel_rfl)
theorem sll28 : SlLit Tryz.prog 28 41 4 [.string ⟨#[]⟩, .string ⟨#[]⟩, .string ⟨#[]⟩, .bool false] := SlLit.of (zv := .agg #[.string ⟨#[]⟩, .string ⟨#[]⟩, .string ⟨#[]⟩, .bool false]) (by kernel_rfl) (by kernel_rfl) (by kernel_rfl) rfl
theorem elt28 : ElT Tryz.prog 28 41 (⟨[], ⟨[], []⟩, false⟩ : TSent) 56 := ElT.of (zv := .agg #[.string ⟨#[]⟩, .string ⟨#[]⟩, .string ⟨#[]⟩, .bool false]) (by kernel_rfl) (by kernel_rfl) rfl (fun w => own_flat (TSent.zok w))
theorem bt30 : BT Tryz.prog 30 [.slice none 0 0, .slice none 0 0, .slice none 0 0, .int .i64 0] [(0, 1), (1, 1), (2, 1), (3, 1)] := BT.of (z := .agg #[.slice none 0 0, .slice none 0 0, .slice none 0 0, .int .i64 0]) (by kernel_rfl) (by kernel_rfl) rfl (fun w => by kernel_rfl)
theorem szf30 : (Tryz.prog.info? 30).map (·.size) = some 4 := by kernel_rfl
theorem agg30 : Agg Tryz.prog 30 4 := Agg.of (by kernel_rfl) (by kernel_rfl)
theorem zt72 : ZT Tryz.prog 72 [.int .i64 0, .int .i64 0, .string ⟨#[]⟩, .int .i64 0, .bool false, .string ⟨#[]⟩] := ZT.of (z := .agg #[.int .i64 0, .int .i64 0, .string ⟨#[]⟩, .int .i64 0, .bool false, .string ⟨#[]⟩]) (by kernel_rfl) rfl
theorem bt72 : BT Tryz.prog 72 [.int .i64 0, .int .i64 0, .string ⟨#[]⟩, .int .i64 0, .bool false, .string ⟨#[]⟩] [(0, 1), (1, 1), (2, 1), (3, 1), (4, 1), (5, 1)] := BT.of (z := .agg #[.int .i64 0, .int .i64 0, .string ⟨#[]⟩, .int .i64 0, .bool false, .string ⟨#[]⟩]) (by kernel_rfl) (by kernel_rfl) rfl (fun w => by kernel_rfl)
theorem szf72 : (Tryz.prog.info? 72).map (·.size) = some 6 := by kernel_rfl
theorem agg72 : Agg Tryz.prog 72 6 := Agg.of (by kernel_rfl) (by kernel_rfl)
theorem slu25 : Tryz.prog.underlying 25 = some (.slice 173) := by kernel_rfl
theorem slt25 : SlT Tryz.prog 25 173 10 := ⟨by kernel_rfl, by kernel_rfl⟩
theorem fa173_0 : FA Tryz.prog 173 0 0 := FA.of (T := 9) (k := 0) (by kernel_rfl) (by kernel_rfl)
theorem fa173_1 : FA Tryz.prog 173 1 1 := FA.of (T := 39) (k := 1) (by kernel_rfl) (by kernel_rfl)
theorem agg39 : Agg Tryz.prog 39 2 := Agg.of (by kernel_rfl) (by kernel_rfl)
theorem eqin39 (d : Nat) (x y : TAddr) (w : World) : (Op.equalIn (d + 2) 39 (.agg #[S x.host, S x.path]) (.agg #[S y.host, S y.path])).run Tryz.prog w = .ok (decide (x = y)) w := by
  have hf : Tryz.prog.fieldsOf 39 = #[⟨ "Host", 9, 0, false, "", "", 0⟩, ⟨ "Path", 9, 1, false, "", "", 16⟩] := by kernel_rfl
  rw [run_equalIn_agg w (d + 1) 39 _ _ (by kernel_rfl) (by kernel_rfl), hf]
  simp [Op.eqFields, go_sem, TAddr.ext_iff]
  try ((repeat' split) <;> simp_all)
theorem eqt39 : EqT Tryz.prog 39 (α := TAddr) := run_eqt_of (eqin39 9998) (by kernel_rfl)
theorem fa173_3 : FA Tryz.prog 173 3 9 := FA.of (T := 3) (k := 0) (by kernel_rfl) (by kernel_rfl)
theorem fa173_2 : FA Tryz.prog 173 2 3 := FA.of (T := 72) (k := 5) (by kernel_rfl) (by kernel_rfl)
theorem fn125 : FN Tryz.prog 125 := FN.of Tryz.func125 (by kernel_rfl) (by kernel_rfl)
theorem slu214 : Tryz.prog.underlying 214 = some (.slice 219) := by kernel_rfl
theorem slt214 : SlT Tryz.prog 214 219 7 := ⟨by kernel_rfl, by kernel_rfl⟩
theorem fa219_0 : FA Tryz.prog 219 0 0 := FA.of (T := 9) (k := 0) (by kernel_rfl) (by kernel_rfl)
theorem fn192 : FN Tryz.prog 192 := FN.of Tryz.func192 (by kernel_rfl) (by kernel_rfl)
theorem agg216 : Agg Tryz.prog 216 2 := Agg.of (by kernel_rfl) (by kernel_rfl)
theorem fn210 : FN Tryz.prog 210 := FN.of Tryz.func210 (by kernel_rfl) (by kernel_rfl)
theorem fa219_1 : FA Tryz.prog 219 1 1 := FA.of (T := 72) (k := 5) (by kernel_rfl) (by kernel_rfl)
theorem sll34 : SlLit Tryz.prog 34 9 1 [.string ⟨#[]⟩] := SlLit.of (zv := .string ⟨#[]⟩) (by kernel_rfl) (by kernel_rfl) (by kernel_rfl) rfl
theorem elt34 : ElT Tryz.prog 34 9 ([] : Str) 16 := ElT.of (zv := .string ⟨#[]⟩) (by kernel_rfl) (by kernel_rfl) rfl (fun w => own_flat (Nat.zero_le _))
theorem slu34 : Tryz.prog.underlying 34 = some (.slice 9) := by kernel_rfl
theorem slt34 : SlT Tryz.prog 34 9 1 := ⟨by kernel_rfl, by kernel_rfl⟩
theorem fa108_0 : FA Tryz.prog 108 0 0 := FA.of (T := 4) (k := 0) (by kernel_rfl) (by kernel_rfl)
theorem sca4 : Sca Tryz.prog 4 := Sca.of (by kernel_rfl) (by kernel_rfl)
theorem fa108_1 : FA Tryz.prog 108 1 1 := FA.of (T := 34) (k := 0) (by kernel_rfl) (by kernel_rfl)
theorem sca34 : Sca Tryz.prog 34 := Sca.of (by kernel_rfl) (by kernel_rfl)
theorem fa108_2 : FA Tryz.prog 108 2 2 := FA.of (T := 34) (k := 0) (by kernel_rfl) (by kernel_rfl)
theorem fa108_3 : FA Tryz.prog 108 3 3 := FA.of (T := 34) (k := 0) (by kernel_rfl) (by kernel_rfl)
theorem fa108_4 : FA Tryz.prog 108 4 4 := FA.of (T := 9) (k := 0) (by kernel_rfl) (by kernel_rfl)
theorem fn334 : FN Tryz.prog 334 := FN.of Tryz.func334 (by kernel_rfl) (by kernel_rfl)
theorem fn237 : FN Tryz.prog 237 := FN.of Tryz.func237 (by kernel_rfl) (by kernel_rfl)
theorem agg108 : Agg Tryz.prog 108 5 := Agg.of (by kernel_rfl) (by kernel_rfl)
theorem fn286 : FN Tryz.prog 286 := FN.of Tryz.func286 (by kernel_rfl) (by kernel_rfl)
theorem fn287 : FN Tryz.prog 287 := FN.of Tryz.func287 (by kernel_rfl) (by kernel_rfl)
theorem zt108 : ZT Tryz.prog 108 [.bool false, .slice none 0 0, .slice none 0 0, .slice none 0 0, .string ⟨#[]⟩] := ZT.of (z := .agg #[.bool false, .slice none 0 0, .slice none 0 0, .slice none 0 0, .string ⟨#[]⟩]) (by kernel_rfl) rfl
theorem bt108 : BT Tryz.prog 108 [.bool false, .slice none 0 0, .slice none 0 0, .slice none 0 0, .string ⟨#[]⟩] [(0, 1), (1, 1), (2, 1), (3, 1), (4, 1)] := BT.of (z := .agg #[.bool false, .slice none 0 0, .slice none 0 0, .slice none 0 0, .string ⟨#[]⟩]) (by kernel_rfl) (by kernel_rfl) rfl (fun w => by kernel_rfl)
theorem szf108 : (Tryz.prog.info? 108).map (·.size) = some 5 := by kernel_rfl
theorem fn109 : FN Tryz.prog 109 := FN.of Tryz.func109 (by kernel_rfl) (by kernel_rfl)
theorem szf9 : (Tryz.prog.info? 9).map (·.size) = some 1 := by kernel_rfl
theorem fn230 : FN Tryz.prog 230 := FN.of Tryz.func230 (by kernel_rfl) (by kernel_rfl)
theorem fa72_5 : FA Tryz.prog 72 5 5 := FA.of (T := 9) (k := 0) (by kernel_rfl) (by kernel_rfl)
theorem fn233 : FN Tryz.prog 233 := FN.of Tryz.func233 (by kernel_rfl) (by kernel_rfl)
theorem fa72_0 : FA Tryz.prog 72 0 0 := FA.of (T := 3) (k := 0) (by kernel_rfl) (by kernel_rfl)
theorem fa72_1 : FA Tryz.prog 72 1 1 := FA.of (T := 3) (k := 0) (by kernel_rfl) (by kernel_rfl)
theorem fa72_2 : FA Tryz.prog 72 2 2 := FA.of (T := 9) (k := 0) (by kernel_rfl) (by kernel_rfl)
theorem fa72_3 : FA Tryz.prog 72 3 3 := FA.of (T := 3) (k := 0) (by kernel_rfl) (by kernel_rfl)
theorem agg173 : Agg Tryz.prog 173 10 := Agg.of (by kernel_rfl) (by kernel_rfl)
theorem zt173 : ZT Tryz.prog 173 [.string ⟨#[]⟩, .string ⟨#[]⟩, .string ⟨#[]⟩, .int .i64 0, .int .i64 0, .string ⟨#[]⟩, .int .i64 0, .bool false, .string ⟨#[]⟩, .int .i64 0] := ZT.of (z := .agg #[.string ⟨#[]⟩, .string ⟨#[]⟩, .string ⟨#[]⟩, .int .i64 0, .int .i64 0, .string ⟨#[]⟩, .int .i64 0, .bool false, .string ⟨#[]⟩, .int .i64 0]) (by kernel_rfl) rfl
theorem szf173 : (Tryz.prog.info? 173).map (·.size) = some 10 := by kernel_rfl
theorem fn40 : FN Tryz.prog 40 := FN.of Tryz.func40 (by kernel_rfl) (by kernel_rfl)
theorem fn163 : FN Tryz.prog 163 := FN.of Tryz.func163 (by kernel_rfl) (by kernel_rfl)
theorem fn193 : FN Tryz.prog 193 := FN.of Tryz.func193 (by kernel_rfl) (by kernel_rfl)
theorem fn99 : FN Tryz.prog 99 := FN.of Tryz.func99 (by kernel_rfl) (by kernel_rfl)
theorem bt173 : BT Tryz.prog 173 [.string ⟨#[]⟩, .string ⟨#[]⟩, .string ⟨#[]⟩, .int .i64 0, .int .i64 0, .string ⟨#[]⟩, .int .i64 0, .bool false, .string ⟨#[]⟩, .int .i64 0] [(0, 1), (1, 2), (3, 6), (9, 1)] := BT.of (z := .agg #[.string ⟨#[]⟩, .string ⟨#[]⟩, .string ⟨#[]⟩, .int .i64 0, .int .i64 0, .string ⟨#[]⟩, .int .i64 0, .bool false, .string ⟨#[]⟩, .int .i64 0]) (by kernel_rfl) (by kernel_rfl) rfl (fun w => by kernel_rfl)
theorem szf25 : (Tryz.prog.info? 25).map (·.size) = some 1 := by kernel_rfl
theorem fn94 : FN Tryz.prog 94 := FN.of Tryz.func94 (by kernel_rfl) (by kernel_rfl)
theorem fn126 : FN Tryz.prog 126 := FN.of Tryz.func126 (by kernel_rfl) (by kernel_rfl)
theorem fn211 : FN Tryz.prog 211 := FN.of Tryz.func211 (by kernel_rfl) (by kernel_rfl)
theorem fn127 : FN Tryz.prog 127 := FN.of Tryz.func127 (by kernel_rfl) (by kernel_rfl)
theorem slu28 : Tryz.prog.underlying 28 = some (.slice 41) := by kernel_rfl
theorem bt41 : BT Tryz.prog 41 [.string ⟨#[]⟩, .string ⟨#[]⟩, .string ⟨#[]⟩, .bool false] [(0, 1), (1, 2), (3, 1)] := BT.of (z := .agg #[.string ⟨#[]⟩, .string ⟨#[]⟩, .string ⟨#[]⟩, .bool false]) (by kernel_rfl) (by kernel_rfl) rfl (fun w => by kernel_rfl)
theorem szf28 : (Tryz.prog.info? 28).map (·.size) = some 1 := by kernel_rfl
theorem fn128 : FN Tryz.prog 128 := FN.of Tryz.func128 (by kernel_rfl) (by kernel_rfl)
theorem fn102 : FN Tryz.prog 102 := FN.of Tryz.func102 (by kernel_rfl) (by kernel_rfl)
theorem zt39 : ZT Tryz.prog 39 [.string ⟨#[]⟩, .string ⟨#[]⟩] := ZT.of (z := .agg #[.string ⟨#[]⟩, .string ⟨#[]⟩]) (by kernel_rfl) rfl
theorem fn85 : FN Tryz.prog 85 := FN.of Tryz.func85 (by kernel_rfl) (by kernel_rfl)
theorem fn240 : FN Tryz.prog 240 := FN.of Tryz.func240 (by kernel_rfl) (by kernel_rfl)
theorem bt39 : BT Tryz.prog 39 [.string ⟨#[]⟩, .string ⟨#[]⟩] [(0, 1), (1, 1)] := BT.of (z := .agg #[.string ⟨#[]⟩, .string ⟨#[]⟩]) (by kernel_rfl) (by kernel_rfl) rfl (fun w => by kernel_rfl)
theorem szf39 : (Tryz.prog.info? 39).map (·.size) = some 2 := by kernel_rfl
theorem fn100 : FN Tryz.prog 100 := FN.of Tryz.func100 (by kernel_rfl) (by kernel_rfl)
theorem fn227 : FN Tryz.prog 227 := FN.of Tryz.func227 (by kernel_rfl) (by kernel_rfl)
theorem fn324 : FN Tryz.prog 324 := FN.of Tryz.func324 (by kernel_rfl) (by kernel_rfl)
theorem fn214 : FN Tryz.prog 214 := FN.of Tryz.func214 (by kernel_rfl) (by kernel_rfl)
theorem fn101 : FN Tryz.prog 101 := FN.of Tryz.func101 (by kernel_rfl) (by kernel_rfl)
theorem fn269 : FN Tryz.prog 269 := FN.of Tryz.func269 (by kernel_rfl) (by kernel_rfl)
theorem fn229 : FN Tryz.prog 229 := FN.of Tryz.func229 (by kernel_rfl) (by kernel_rfl)
theorem sll62 : SlLit Tryz.prog 62 3 1 [.int .i64 0] := SlLit.of (zv := .int .i64 0) (by kernel_rfl) (by kernel_rfl) (by kernel_rfl) rfl
theorem fn88 : FN Tryz.prog 88 := FN.of Tryz.func88 (by kernel_rfl) (by kernel_rfl)
theorem fn156 : FN Tryz.prog 156 := FN.of Tryz.func156 (by kernel_rfl) (by kernel_rfl)
theorem fn191 : FN Tryz.prog 191 := FN.of Tryz.func191 (by kernel_rfl) (by kernel_rfl)
theorem bt219 : BT Tryz.prog 219 [.string ⟨#[]⟩, .int .i64 0, .int .i64 0, .string ⟨#[]⟩, .int .i64 0, .bool false, .string ⟨#[]⟩] [(0, 1), (1, 6)] := BT.of (z := .agg #[.string ⟨#[]⟩, .int .i64 0, .int .i64 0, .string ⟨#[]⟩, .int .i64 0, .bool false, .string ⟨#[]⟩]) (by kernel_rfl) (by kernel_rfl) rfl (fun w => by kernel_rfl)
theorem szf214 : (Tryz.prog.info? 214).map (·.size) = some 1 := by kernel_rfl
theorem fn158 : FN Tryz.prog 158 := FN.of Tryz.func158 (by kernel_rfl) (by kernel_rfl)
theorem fn291 : FN Tryz.prog 291 := FN.of Tryz.func291 (by kernel_rfl) (by kernel_rfl)
theorem fn238 : FN Tryz.prog 238 := FN.of Tryz.func238 (by kernel_rfl) (by kernel_rfl)
theorem fn176 : FN Tryz.prog 176 := FN.of Tryz.func176 (by kernel_rfl) (by kernel_rfl)
theorem fn36 : FN Tryz.prog 36 := FN.of Tryz.func36 (by kernel_rfl) (by kernel_rfl)
theorem fn159 : FN Tryz.prog 159 := FN.of Tryz.func159 (by kernel_rfl) (by kernel_rfl)
theorem fn239 : FN Tryz.prog 239 := FN.of Tryz.func239 (by kernel_rfl) (by kernel_rfl)
theorem fn120 : FN Tryz.prog 120 := FN.of Tryz.func120 (by kernel_rfl) (by kernel_rfl)
theorem u8t5 : Tryz.prog.underlying 5 = some (.int .u8) := by kernel_rfl
theorem sll22 : SlLit Tryz.prog 22 5 1 [.int .u8 0] := SlLit.of (zv := .int .u8 0) (by kernel_rfl) (by kernel_rfl) (by kernel_rfl) rfl
theorem fn173 : FN Tryz.prog 173 := FN.of Tryz.func173 (by kernel_rfl) (by kernel_rfl)
theorem fn174 : FN Tryz.prog 174 := FN.of Tryz.func174 (by kernel_rfl) (by kernel_rfl)
theorem szf24 : (Tryz.prog.info? 24).map (·.size) = some 1 := by kernel_rfl
theorem fn175 : FN Tryz.prog 175 := FN.of Tryz.func175 (by kernel_rfl) (by kernel_rfl)
theorem fn83 : FN Tryz.prog 83 := FN.of Tryz.func83 (by kernel_rfl) (by kernel_rfl)
theorem fn84 : FN Tryz.prog 84 := FN.of Tryz.func84 (by kernel_rfl) (by kernel_rfl)
theorem slt28 : SlT Tryz.prog 28 41 4 := ⟨by kernel_rfl, by kernel_rfl⟩
theorem agg41 : Agg Tryz.prog 41 4 := Agg.of (by kernel_rfl) (by kernel_rfl)
theorem zt41 : ZT Tryz.prog 41 [.string ⟨#[]⟩, .string ⟨#[]⟩, .string ⟨#[]⟩, .bool false] := ZT.of (z := .agg #[.string ⟨#[]⟩, .string ⟨#[]⟩, .string ⟨#[]⟩, .bool false]) (by kernel_rfl) rfl
theorem szf41 : (Tryz.prog.info? 41).map (·.size) = some 4 := by kernel_rfl
theorem fa41_1 : FA Tryz.prog 41 1 1 := FA.of (T := 39) (k := 1) (by kernel_rfl) (by kernel_rfl)
theorem slu35 : Tryz.prog.underlying 35 = some (.slice 39) := by kernel_rfl
theorem slt35 : SlT Tryz.prog 35 39 2 := ⟨by kernel_rfl, by kernel_rfl⟩
theorem elt35 : ElT Tryz.prog 35 39 (⟨[], []⟩ : TAddr) 32 := ElT.of (zv := .agg #[.string ⟨#[]⟩, .string ⟨#[]⟩]) (by kernel_rfl) (by kernel_rfl) rfl (fun w => own_flat (TAddr.zok w))
theorem sll35 : SlLit Tryz.prog 35 39 2 [.string ⟨#[]⟩, .string ⟨#[]⟩] := SlLit.of (zv := .agg #[.string ⟨#[]⟩, .string ⟨#[]⟩]) (by kernel_rfl) (by kernel_rfl) (by kernel_rfl) rfl
theorem fn177 : FN Tryz.prog 177 := FN.of Tryz.func177 (by kernel_rfl) (by kernel_rfl)
theorem fn179 : FN Tryz.prog 179 := FN.of Tryz.func179 (by kernel_rfl) (by kernel_rfl)
theorem fn86 : FN Tryz.prog 86 := FN.of Tryz.func86 (by kernel_rfl) (by kernel_rfl)
theorem fn180 : FN Tryz.prog 180 := FN.of Tryz.func180 (by kernel_rfl) (by kernel_rfl)
theorem fn87 : FN Tryz.prog 87 := FN.of Tryz.func87 (by kernel_rfl) (by kernel_rfl)
theorem fn90 : FN Tryz.prog 90 := FN.of Tryz.func90 (by kernel_rfl) (by kernel_rfl)
theorem fn379 : FN Tryz.prog 379 := FN.of Tryz.func379 (by kernel_rfl) (by kernel_rfl)
theorem fn106 : FN Tryz.prog 106 := FN.of Tryz.func106 (by kernel_rfl) (by kernel_rfl)
theorem fn369 : FN Tryz.prog 369 := FN.of Tryz.func369 (by kernel_rfl) (by kernel_rfl)
theorem fn370 : FN Tryz.prog 370 := FN.of Tryz.func370 (by kernel_rfl) (by kernel_rfl)
theorem fn354 : FN Tryz.prog 354 := FN.of Tryz.func354 (by kernel_rfl) (by kernel_rfl)
theorem fn234 : FN Tryz.prog 234 := FN.of Tryz.func234 (by kernel_rfl) (by kernel_rfl)
theorem fn326 : FN Tryz.prog 326 := FN.of Tryz.func326 (by kernel_rfl) (by kernel_rfl)
theorem fn113 : FN Tryz.prog 113 := FN.of Tryz.func113 (by kernel_rfl) (by kernel_rfl)
theorem szf34 : (Tryz.prog.info? 34).map (·.size) = some 1 := by kernel_rfl
theorem fn103 : FN Tryz.prog 103 := FN.of Tryz.func103 (by kernel_rfl) (by kernel_rfl)
theorem arr293 : Tryz.prog.underlying 293 = some (.array 3 34) := by kernel_rfl
theorem zt293 : ZT Tryz.prog 293 [.slice none 0 0, .slice none 0 0, .slice none 0 0] := ZT.of (z := .agg #[.slice none 0 0, .slice none 0 0, .slice none 0 0]) (by kernel_rfl) rfl
theorem szf293 : (Tryz.prog.info? 293).map (·.size) = some 3 := by kernel_rfl
theorem fn274 : FN Tryz.prog 274 := FN.of Tryz.func274 (by kernel_rfl) (by kernel_rfl)
theorem fn275 : FN Tryz.prog 275 := FN.of Tryz.func275 (by kernel_rfl) (by kernel_rfl)
theorem fn276 : FN Tryz.prog 276 := FN.of Tryz.func276 (by kernel_rfl) (by kernel_rfl)
theorem fn212 : FN Tryz.prog 212 := FN.of Tryz.func212 (by kernel_rfl) (by kernel_rfl)
theorem agg219 : Agg Tryz.prog 219 7 := Agg.of (by kernel_rfl) (by kernel_rfl)
theorem fn272 : FN Tryz.prog 272 := FN.of Tryz.func272 (by kernel_rfl) (by kernel_rfl)
theorem fn273 : FN Tryz.prog 273 := FN.of Tryz.func273 (by kernel_rfl) (by kernel_rfl)
theorem zt219 : ZT Tryz.prog 219 [.string ⟨#[]⟩, .int .i64 0, .int .i64 0, .string ⟨#[]⟩, .int .i64 0, .bool false, .string ⟨#[]⟩] := ZT.of (z := .agg #[.string ⟨#[]⟩, .int .i64 0, .int .i64 0, .string ⟨#[]⟩, .int .i64 0, .bool false, .string ⟨#[]⟩]) (by kernel_rfl) rfl
theorem szf219 : (Tryz.prog.info? 219).map (·.size) = some 7 := by kernel_rfl
theorem fn209 : FN Tryz.prog 209 := FN.of Tryz.func209 (by kernel_rfl) (by kernel_rfl)
theorem fn130 : FN Tryz.prog 130 := FN.of Tryz.func130 (by kernel_rfl) (by kernel_rfl)
theorem fn243 : FN Tryz.prog 243 := FN.of Tryz.func243 (by kernel_rfl) (by kernel_rfl)
theorem fn244 : FN Tryz.prog 244 := FN.of Tryz.func244 (by kernel_rfl) (by kernel_rfl)
theorem zt216 : ZT Tryz.prog 216 [.string ⟨#[]⟩, .slice none 0 0] := ZT.of (z := .agg #[.string ⟨#[]⟩, .slice none 0 0]) (by kernel_rfl) rfl
theorem szf216 : (Tryz.prog.info? 216).map (·.size) = some 2 := by kernel_rfl
theorem fn188 : FN Tryz.prog 188 := FN.of Tryz.func188 (by kernel_rfl) (by kernel_rfl)
theorem fn189 : FN Tryz.prog 189 := FN.of Tryz.func189 (by kernel_rfl) (by kernel_rfl)
theorem fn207 : FN Tryz.prog 207 := FN.of Tryz.func207 (by kernel_rfl) (by kernel_rfl)
theorem fn245 : FN Tryz.prog 245 := FN.of Tryz.func245 (by kernel_rfl) (by kernel_rfl)
theorem fn121 : FN Tryz.prog 121 := FN.of Tryz.func121 (by kernel_rfl) (by kernel_rfl)
theorem fn190 : FN Tryz.prog 190 := FN.of Tryz.func190 (by kernel_rfl) (by kernel_rfl)
theorem fn96 : FN Tryz.prog 96 := FN.of Tryz.func96 (by kernel_rfl) (by kernel_rfl)
theorem fn97 : FN Tryz.prog 97 := FN.of Tryz.func97 (by kernel_rfl) (by kernel_rfl)
theorem fn181 : FN Tryz.prog 181 := FN.of Tryz.func181 (by kernel_rfl) (by kernel_rfl)
theorem fn182 : FN Tryz.prog 182 := FN.of Tryz.func182 (by kernel_rfl) (by kernel_rfl)
theorem fn89 : FN Tryz.prog 89 := FN.of Tryz.func89 (by kernel_rfl) (by kernel_rfl)
theorem fn21 : FN Tryz.prog 21 := FN.of Tryz.func21 (by kernel_rfl) (by kernel_rfl)
theorem fa41_2 : FA Tryz.prog 41 2 3 := FA.of (T := 4) (k := 0) (by kernel_rfl) (by kernel_rfl)
theorem fn91 : FN Tryz.prog 91 := FN.of Tryz.func91 (by kernel_rfl) (by kernel_rfl)
theorem eqin72 (d : Nat) (x y : TResponse) (w : World) : (Op.equalIn (d + 2) 72 (.agg #[I x.status, I x.kind, S x.body, I x.age, Bo x.shares, S x.policy]) (.agg #[I y.status, I y.kind, S y.body, I y.age, Bo y.shares, S y.policy])).run Tryz.prog w = .ok (decide (x = y)) w := by
  have hf : Tryz.prog.fieldsOf 72 = #[⟨ "Status", 3, 0, false, "", "", 0⟩, ⟨ "Kind", 3, 1, false, "", "", 8⟩, ⟨ "Body", 9, 2, false, "", "", 16⟩, ⟨ "Age", 3, 3, false, "", "", 32⟩, ⟨ "Shares", 4, 4, false, "", "", 40⟩, ⟨ "Policy", 9, 5, false, "", "", 48⟩] := by kernel_rfl
  rw [run_equalIn_agg w (d + 1) 72 _ _ (by kernel_rfl) (by kernel_rfl), hf]
  simp [Op.eqFields, go_sem, TResponse.ext_iff]
  try ((repeat' split) <;> simp_all)
theorem eqin173 (d : Nat) (x y : TEntry) (w : World) : (Op.equalIn (d + 3) 173 (.agg #[S x.top, S x.to.host, S x.to.path, I x.response.status, I x.response.kind, S x.response.body, I x.response.age, Bo x.response.shares, S x.response.policy, I x.until_]) (.agg #[S y.top, S y.to.host, S y.to.path, I y.response.status, I y.response.kind, S y.response.body, I y.response.age, Bo y.response.shares, S y.response.policy, I y.until_])).run Tryz.prog w = .ok (decide (x = y)) w := by
  have hf : Tryz.prog.fieldsOf 173 = #[⟨ "Top", 9, 0, false, "", "", 0⟩, ⟨ "To", 39, 1, false, "", "", 16⟩, ⟨ "Response", 72, 3, false, "", "", 48⟩, ⟨ "Until", 3, 9, false, "", "", 112⟩] := by kernel_rfl
  rw [run_equalIn_agg w (d + 2) 173 _ _ (by kernel_rfl) (by kernel_rfl), hf]
  simp [Op.eqFields, go_sem, TEntry.ext_iff, eqin39, eqin72]
  try ((repeat' split) <;> simp_all)
theorem eqt173 : EqT Tryz.prog 173 (α := TEntry) := run_eqt_of (eqin173 9997) (by kernel_rfl)
theorem fn129 : FN Tryz.prog 129 := FN.of Tryz.func129 (by kernel_rfl) (by kernel_rfl)
theorem eqin219 (d : Nat) (x y : TFile) (w : World) : (Op.equalIn (d + 3) 219 (.agg #[S x.path, I x.response.status, I x.response.kind, S x.response.body, I x.response.age, Bo x.response.shares, S x.response.policy]) (.agg #[S y.path, I y.response.status, I y.response.kind, S y.response.body, I y.response.age, Bo y.response.shares, S y.response.policy])).run Tryz.prog w = .ok (decide (x = y)) w := by
  have hf : Tryz.prog.fieldsOf 219 = #[⟨ "Path", 9, 0, false, "", "", 0⟩, ⟨ "Response", 72, 1, false, "", "", 16⟩] := by kernel_rfl
  rw [run_equalIn_agg w (d + 2) 219 _ _ (by kernel_rfl) (by kernel_rfl), hf]
  simp [Op.eqFields, go_sem, TFile.ext_iff, eqin72]
  try ((repeat' split) <;> simp_all)
theorem eqt219 : EqT Tryz.prog 219 (α := TFile) := run_eqt_of (eqin219 9997) (by kernel_rfl)
theorem fn185 : FN Tryz.prog 185 := FN.of Tryz.func185 (by kernel_rfl) (by kernel_rfl)
theorem fn183 : FN Tryz.prog 183 := FN.of Tryz.func183 (by kernel_rfl) (by kernel_rfl)
theorem fn184 : FN Tryz.prog 184 := FN.of Tryz.func184 (by kernel_rfl) (by kernel_rfl)
theorem eqin41 (d : Nat) (x y : TSent) (w : World) : (Op.equalIn (d + 3) 41 (.agg #[S x.top, S x.to.host, S x.to.path, Bo x.guess]) (.agg #[S y.top, S y.to.host, S y.to.path, Bo y.guess])).run Tryz.prog w = .ok (decide (x = y)) w := by
  have hf : Tryz.prog.fieldsOf 41 = #[⟨ "Top", 9, 0, false, "", "", 0⟩, ⟨ "To", 39, 1, false, "", "", 16⟩, ⟨ "Guess", 4, 3, false, "", "", 48⟩] := by kernel_rfl
  rw [run_equalIn_agg w (d + 2) 41 _ _ (by kernel_rfl) (by kernel_rfl), hf]
  simp [Op.eqFields, go_sem, TSent.ext_iff, eqin39]
  try ((repeat' split) <;> simp_all)
theorem eqt41 : EqT Tryz.prog 41 (α := TSent) := run_eqt_of (eqin41 9997) (by kernel_rfl)
theorem fn92 : FN Tryz.prog 92 := FN.of Tryz.func92 (by kernel_rfl) (by kernel_rfl)
theorem fn38 : FN Tryz.prog 38 := FN.of Tryz.func38 (by kernel_rfl) (by kernel_rfl)
theorem fn93 : FN Tryz.prog 93 := FN.of Tryz.func93 (by kernel_rfl) (by kernel_rfl)
theorem fn98 : FN Tryz.prog 98 := FN.of Tryz.func98 (by kernel_rfl) (by kernel_rfl)
theorem fn22 : FN Tryz.prog 22 := FN.of Tryz.func22 (by kernel_rfl) (by kernel_rfl)
theorem fn10 : FN Tryz.prog 10 := FN.of Tryz.func10 (by kernel_rfl) (by kernel_rfl)
theorem fn11 : FN Tryz.prog 11 := FN.of Tryz.func11 (by kernel_rfl) (by kernel_rfl)
theorem fn12 : FN Tryz.prog 12 := FN.of Tryz.func12 (by kernel_rfl) (by kernel_rfl)
theorem fn13 : FN Tryz.prog 13 := FN.of Tryz.func13 (by kernel_rfl) (by kernel_rfl)
theorem fn14 : FN Tryz.prog 14 := FN.of Tryz.func14 (by kernel_rfl) (by kernel_rfl)
theorem fn15 : FN Tryz.prog 15 := FN.of Tryz.func15 (by kernel_rfl) (by kernel_rfl)
theorem fn16 : FN Tryz.prog 16 := FN.of Tryz.func16 (by kernel_rfl) (by kernel_rfl)
theorem fn17 : FN Tryz.prog 17 := FN.of Tryz.func17 (by kernel_rfl) (by kernel_rfl)
theorem fn18 : FN Tryz.prog 18 := FN.of Tryz.func18 (by kernel_rfl) (by kernel_rfl)
theorem fn20 : FN Tryz.prog 20 := FN.of Tryz.func20 (by kernel_rfl) (by kernel_rfl)
theorem fn19 : FN Tryz.prog 19 := FN.of Tryz.func19 (by kernel_rfl) (by kernel_rfl)
theorem bool4 : Tryz.prog.underlying 4 = some .bool := by kernel_rfl

end Go.Sw
