/- Facts on the types and functions of this translation, each closed. No conditions. -/
import Derived.Test.YtpnmdcomdakdmaaGreatDoorRows
import Derived.Test.YtpnmdcomdakdmaaGreatDoorLibW
import Derived.Test.YtpnmdcomdakdmaaGreatDoorLibL
import Derived.Test.YtpnmdcomdakdmaaGreatDoorSh
import Derived.Test.YtpnmdcomdakdmaaGreatDoorSc
import Derived.WalkSpells
namespace Go.Sw
open Go Go.RowKit Go.Proofs

theorem Q10 {p : Prop} (h : p := by first | assumption | omega | (simp only [lsz] at *; omega) | (simp only [lsz, strsz, TPolicy.size, TCache.size, TAddr.size, TRequest.size, TEntry.size, TResponse.size, TLine.size] at *; omega) | (simp only [lsz_map, TPage.size, TBuilder.size, TNode.size, TToken.size, TTokenizer.size, TServer.size, TFile.size, TNet.size, TCache.size, TSheet.size, strsz] at *; omega) | (simp only [lsz_map, TPage.size, TBuilder.size, TNode.size, TToken.size, TTokenizer.size, TServer.size, TFile.size, TNet.size, TCache.size, TSheet.size, strsz, lsz] at *; omega)) : p := h
theorem Q11 {p : Prop} (h : p := by first | assumption | omega | (simp only [costServer, costNode, costSheet, costToken, costoPolicy, costoCache, costoNet, costoSheet, costoBuilder, costoToken, PToken.lg, PNode.lg, PBuilder.lg, PSheet.lg, PPolicy.lg, PServer.lg, PCache.lg, PNet.lg, PPage.lg] at *; omega)) : p := h
theorem Q12 {p : Prop} (h : p := by first | assumption | omega | (simp only [costServer, costNode, costSheet, costToken, costoPolicy, costoCache, costoNet, costoSheet, costoBuilder, costoToken] at *; omega)) : p := h
theorem Q13 {p : Prop} (h : p := by first | assumption | omega | (simp only [PToken.lg, PNode.lg, PBuilder.lg, PSheet.lg, PPolicy.lg, PServer.lg, PCache.lg, PNet.lg, PPage.lg] at *; omega)) : p := h
theorem Q1 {p : Prop} (h : p := by repeat (first | exact List.mem_cons_self | apply List.mem_cons_of_mem)) : p := h
theorem Q2 {p : Prop} (h : p := by repeat (first | exact Sel.nil | (apply Sel.cons; (repeat (first | exact Ext.here | apply Ext.there))))) : p := h
theorem Q4 {p : Prop} (h : p := by repeat (first | exact Fill.nil | (apply Fill.cons; rfl; rfl; rfl; repeat (first | (apply SetAt.here; repeat (first | exact Over.nil | apply Over.cons)) | apply SetAt.there)))) : p := h
theorem Q3 {p : Prop} (h : p := by repeat (first | (apply SetAt.here; repeat (first | exact Over.nil | apply Over.cons)) | apply SetAt.there)) : p := h
theorem Q5 {p : Prop} (h : p := by repeat (first | exact Repl.here | apply Repl.there)) : p := h
theorem Q6 {p : Prop} (h : p := by kernel_rfl) : p := h
theorem Q7 {p : Prop} (h : p := by omega) : p := h
theorem Q0 {p : Prop} (h : p := by rfl) : p := h
theorem Qm {P : Program} {n : Nat} {ops : Array Oper} {Q : Exit → Act → World → Prop} {rest : List Oper} {e : Env} {w : World} {t : Nat} {ty : TypeId} {pos : String} {aft : Array Edge} {x : Operand} {v : Value} (h : WL P n ops Q rest ((t, v) :: e) w) (ht : Nat.blt t n = true := by rfl) (hx : ev? e x = some v := by rfl) : WL P n ops Q (⟨some t, .move x, ty, pos, aft, none⟩ :: rest) e w := WL.p ht (Yl.move hx) h
theorem Qa {P : Program} {n : Nat} {ops : Array Oper} {Q : Exit → Act → World → Prop} {rest : List Oper} {e : Env} {w : World} {t : Nat} {ty : TypeId} {pos : String} {aft : Array Edge} {x : Operand} {v : Value} (h : WL P n ops Q rest ((t, v) :: e) w) (ht : Nat.blt t n = true := by rfl) (hx : ev? e x = some v := by rfl) : WL P n ops Q (⟨some t, .assign x, ty, pos, aft, none⟩ :: rest) e w := WL.p ht (Yl.assign hx) h
theorem slu54 : Tryz.prog.underlying 54 = some (.slice 51) := by kernel_rfl
theorem slt54 : SlT Tryz.prog 54 51 1 := ⟨by kernel_rfl, by kernel_rfl⟩
theorem fa51_0 : FA Tryz.prog 51 0 0 := FA.of (T := 49) (k := 0) (by kernel_rfl) (by kernel_rfl)
theorem sca49 : Sca Tryz.prog 49 := Sca.of (by kernel_rfl) (by kernel_rfl)
theorem slu49 : Tryz.prog.underlying 49 = some (.slice 60) := by kernel_rfl
theorem slt49 : SlT Tryz.prog 49 60 2 := ⟨by kernel_rfl, by kernel_rfl⟩
theorem fa60_0 : FA Tryz.prog 60 0 0 := FA.of (T := 9) (k := 0) (by kernel_rfl) (by kernel_rfl)
theorem sca9 : Sca Tryz.prog 9 := Sca.of (by kernel_rfl) (by kernel_rfl)
theorem fa60_1 : FA Tryz.prog 60 1 1 := FA.of (T := 3) (k := 0) (by kernel_rfl) (by kernel_rfl)
theorem sca3 : Sca Tryz.prog 3 := Sca.of (by kernel_rfl) (by kernel_rfl)
theorem str9 : Tryz.prog.underlying 9 = some .string := by kernel_rfl
theorem fn90 : FN Tryz.prog 90 := FN.of Tryz.func90 (by kernel_rfl) (by kernel_rfl)
theorem fn198 : FN Tryz.prog 198 := FN.of Tryz.func198 (by kernel_rfl) (by kernel_rfl)
theorem zt64 : ZT Tryz.prog 64 [.slice none 0 0, .slice none 0 0] := ZT.of (z := .agg #[.slice none 0 0, .slice none 0 0]) (by kernel_rfl) rfl
theorem sll62 : SlLit Tryz.prog 62 3 1 [.int .i64 0] := SlLit.of (zv := .int .i64 0) (by kernel_rfl) (by kernel_rfl) (by kernel_rfl) rfl
theorem fa64_1 : FA Tryz.prog 64 1 1 := FA.of (T := 62) (k := 0) (by kernel_rfl) (by kernel_rfl)
theorem sca62 : Sca Tryz.prog 62 := Sca.of (by kernel_rfl) (by kernel_rfl)
theorem elt62 : ElT Tryz.prog 62 3 (0 : Int) 8 := ElT.of (zv := .int .i64 0) (by kernel_rfl) (by kernel_rfl) rfl (fun w => own_flat (⟨by decide, by decide⟩))
theorem bt64 : BT Tryz.prog 64 [.slice none 0 0, .slice none 0 0] [(0, 1), (1, 1)] := BT.of (z := .agg #[.slice none 0 0, .slice none 0 0]) (by kernel_rfl) (by kernel_rfl) rfl (fun w => by kernel_rfl)
theorem szf64 : (Tryz.prog.info? 64).map (·.size) = some 2 := by kernel_rfl
theorem fa64_0 : FA Tryz.prog 64 0 0 := FA.of (T := 61) (k := 0) (by kernel_rfl) (by kernel_rfl)
theorem sca61 : Sca Tryz.prog 61 := Sca.of (by kernel_rfl) (by kernel_rfl)
theorem slu61 : Tryz.prog.underlying 61 = some (.slice 165) := by kernel_rfl
theorem slt61 : SlT Tryz.prog 61 165 4 := ⟨by kernel_rfl, by kernel_rfl⟩
theorem agg165 : Agg Tryz.prog 165 4 := Agg.of (by kernel_rfl) (by kernel_rfl)
theorem zt165 : ZT Tryz.prog 165 [.string ⟨#[]⟩, .string ⟨#[]⟩, .int .i64 0, .slice none 0 0] := ZT.of (z := .agg #[.string ⟨#[]⟩, .string ⟨#[]⟩, .int .i64 0, .slice none 0 0]) (by kernel_rfl) rfl
theorem szf165 : (Tryz.prog.info? 165).map (·.size) = some 4 := by kernel_rfl
theorem sll163 : SlLit Tryz.prog 163 255 2 [.string ⟨#[]⟩, .string ⟨#[]⟩] := SlLit.of (zv := .agg #[.string ⟨#[]⟩, .string ⟨#[]⟩]) (by kernel_rfl) (by kernel_rfl) (by kernel_rfl) rfl
theorem fa165_3 : FA Tryz.prog 165 3 3 := FA.of (T := 163) (k := 0) (by kernel_rfl) (by kernel_rfl)
theorem sca163 : Sca Tryz.prog 163 := Sca.of (by kernel_rfl) (by kernel_rfl)
theorem elt163 : ElT Tryz.prog 163 255 (⟨[], []⟩ : TAttr) 32 := ElT.of (zv := .agg #[.string ⟨#[]⟩, .string ⟨#[]⟩]) (by kernel_rfl) (by kernel_rfl) rfl (fun w => own_flat (TAttr.zok w))
theorem szf163 : (Tryz.prog.info? 163).map (·.size) = some 1 := by kernel_rfl
theorem sll61 : SlLit Tryz.prog 61 165 4 [.string ⟨#[]⟩, .string ⟨#[]⟩, .int .i64 0, .slice none 0 0] := SlLit.of (zv := .agg #[.string ⟨#[]⟩, .string ⟨#[]⟩, .int .i64 0, .slice none 0 0]) (by kernel_rfl) (by kernel_rfl) (by kernel_rfl) rfl
theorem elt61 : ElT Tryz.prog 61 165 (⟨[], [], 0, ⟨[], none, 0⟩⟩ : PNode) 64 := ElT.of (zv := .agg #[.string ⟨#[]⟩, .string ⟨#[]⟩, .int .i64 0, .slice none 0 0]) (by kernel_rfl) (by kernel_rfl) rfl (fun w => PNode.zown w)
theorem szf61 : (Tryz.prog.info? 61).map (·.size) = some 1 := by kernel_rfl
theorem agg64 : Agg Tryz.prog 64 2 := Agg.of (by kernel_rfl) (by kernel_rfl)
theorem fa165_0 : FA Tryz.prog 165 0 0 := FA.of (T := 9) (k := 0) (by kernel_rfl) (by kernel_rfl)
theorem fn133 : FN Tryz.prog 133 := FN.of Tryz.func133 (by kernel_rfl) (by kernel_rfl)
theorem fa87_0 : FA Tryz.prog 87 0 0 := FA.of (T := 3) (k := 0) (by kernel_rfl) (by kernel_rfl)
theorem mixed : Tryz.prog.follows .mixedOrders = true := by kernel_rfl
theorem fa87_1 : FA Tryz.prog 87 1 1 := FA.of (T := 9) (k := 0) (by kernel_rfl) (by kernel_rfl)
theorem fn134 : FN Tryz.prog 134 := FN.of Tryz.func134 (by kernel_rfl) (by kernel_rfl)
theorem fn106 : FN Tryz.prog 106 := FN.of Tryz.func106 (by kernel_rfl) (by kernel_rfl)
theorem bt165 : BT Tryz.prog 165 [.string ⟨#[]⟩, .string ⟨#[]⟩, .int .i64 0, .slice none 0 0] [(0, 1), (1, 1), (2, 1), (3, 1)] := BT.of (z := .agg #[.string ⟨#[]⟩, .string ⟨#[]⟩, .int .i64 0, .slice none 0 0]) (by kernel_rfl) (by kernel_rfl) rfl (fun w => by kernel_rfl)
theorem fn135 : FN Tryz.prog 135 := FN.of Tryz.func135 (by kernel_rfl) (by kernel_rfl)
theorem fn112 : FN Tryz.prog 112 := FN.of Tryz.func112 (by kernel_rfl) (by kernel_rfl)
theorem fn31 : FN Tryz.prog 31 := FN.of Tryz.func31 (by kernel_rfl) (by kernel_rfl)
theorem sll34 : SlLit Tryz.prog 34 9 1 [.string ⟨#[]⟩] := SlLit.of (zv := .string ⟨#[]⟩) (by kernel_rfl) (by kernel_rfl) (by kernel_rfl) rfl
theorem slu79 : Tryz.prog.underlying 79 = some (.slice 87) := by kernel_rfl
theorem slt79 : SlT Tryz.prog 79 87 2 := ⟨by kernel_rfl, by kernel_rfl⟩
theorem agg87 : Agg Tryz.prog 87 2 := Agg.of (by kernel_rfl) (by kernel_rfl)
theorem zt87 : ZT Tryz.prog 87 [.int .i64 0, .string ⟨#[]⟩] := ZT.of (z := .agg #[.int .i64 0, .string ⟨#[]⟩]) (by kernel_rfl) rfl
theorem szf87 : (Tryz.prog.info? 87).map (·.size) = some 2 := by kernel_rfl
theorem fn43 : FN Tryz.prog 43 := FN.of Tryz.func43 (by kernel_rfl) (by kernel_rfl)
theorem elt34 : ElT Tryz.prog 34 9 ([] : Str) 16 := ElT.of (zv := .string ⟨#[]⟩) (by kernel_rfl) (by kernel_rfl) rfl (fun w => own_flat (Nat.zero_le _))
theorem fa359_0 : FA Tryz.prog 359 0 0 := FA.of (T := 9) (k := 0) (by kernel_rfl) (by kernel_rfl)
theorem fa359_1 : FA Tryz.prog 359 1 1 := FA.of (T := 9) (k := 0) (by kernel_rfl) (by kernel_rfl)
theorem slu258 : Tryz.prog.underlying 258 = some (.slice 359) := by kernel_rfl
theorem slt258 : SlT Tryz.prog 258 359 2 := ⟨by kernel_rfl, by kernel_rfl⟩
theorem agg359 : Agg Tryz.prog 359 2 := Agg.of (by kernel_rfl) (by kernel_rfl)
theorem fn331 : FN Tryz.prog 331 := FN.of Tryz.func331 (by kernel_rfl) (by kernel_rfl)
theorem fa260_0 : FA Tryz.prog 260 0 0 := FA.of (T := 9) (k := 0) (by kernel_rfl) (by kernel_rfl)
theorem fa260_1 : FA Tryz.prog 260 1 1 := FA.of (T := 9) (k := 0) (by kernel_rfl) (by kernel_rfl)
theorem fa260_3 : FA Tryz.prog 260 3 3 := FA.of (T := 258) (k := 0) (by kernel_rfl) (by kernel_rfl)
theorem sca258 : Sca Tryz.prog 258 := Sca.of (by kernel_rfl) (by kernel_rfl)
theorem fn280 : FN Tryz.prog 280 := FN.of Tryz.func280 (by kernel_rfl) (by kernel_rfl)
theorem slu93 : Tryz.prog.underlying 93 = some (.slice 260) := by kernel_rfl
theorem slt93 : SlT Tryz.prog 93 260 4 := ⟨by kernel_rfl, by kernel_rfl⟩
theorem agg260 : Agg Tryz.prog 260 4 := Agg.of (by kernel_rfl) (by kernel_rfl)
theorem fn219 : FN Tryz.prog 219 := FN.of Tryz.func219 (by kernel_rfl) (by kernel_rfl)
theorem slu62 : Tryz.prog.underlying 62 = some (.slice 3) := by kernel_rfl
theorem fa95_0 : FA Tryz.prog 95 0 0 := FA.of (T := 93) (k := 0) (by kernel_rfl) (by kernel_rfl)
theorem sca93 : Sca Tryz.prog 93 := Sca.of (by kernel_rfl) (by kernel_rfl)
theorem fn142 : FN Tryz.prog 142 := FN.of Tryz.func142 (by kernel_rfl) (by kernel_rfl)
theorem fa95_1 : FA Tryz.prog 95 1 1 := FA.of (T := 62) (k := 0) (by kernel_rfl) (by kernel_rfl)
theorem fn143 : FN Tryz.prog 143 := FN.of Tryz.func143 (by kernel_rfl) (by kernel_rfl)
theorem fa316_0 : FA Tryz.prog 316 0 0 := FA.of (T := 9) (k := 0) (by kernel_rfl) (by kernel_rfl)
theorem slu186 : Tryz.prog.underlying 186 = some (.slice 316) := by kernel_rfl
theorem slt186 : SlT Tryz.prog 186 316 2 := ⟨by kernel_rfl, by kernel_rfl⟩
theorem agg316 : Agg Tryz.prog 316 2 := Agg.of (by kernel_rfl) (by kernel_rfl)
theorem fn281 : FN Tryz.prog 281 := FN.of Tryz.func281 (by kernel_rfl) (by kernel_rfl)
theorem fa188_0 : FA Tryz.prog 188 0 0 := FA.of (T := 186) (k := 0) (by kernel_rfl) (by kernel_rfl)
theorem sca186 : Sca Tryz.prog 186 := Sca.of (by kernel_rfl) (by kernel_rfl)
theorem fn220 : FN Tryz.prog 220 := FN.of Tryz.func220 (by kernel_rfl) (by kernel_rfl)
theorem slu96 : Tryz.prog.underlying 96 = some (.slice 188) := by kernel_rfl
theorem slt96 : SlT Tryz.prog 96 188 1 := ⟨by kernel_rfl, by kernel_rfl⟩
theorem agg188 : Agg Tryz.prog 188 1 := Agg.of (by kernel_rfl) (by kernel_rfl)
theorem fn144 : FN Tryz.prog 144 := FN.of Tryz.func144 (by kernel_rfl) (by kernel_rfl)
theorem zt255 : ZT Tryz.prog 255 [.string ⟨#[]⟩, .string ⟨#[]⟩] := ZT.of (z := .agg #[.string ⟨#[]⟩, .string ⟨#[]⟩]) (by kernel_rfl) rfl
theorem fa255_0 : FA Tryz.prog 255 0 0 := FA.of (T := 9) (k := 0) (by kernel_rfl) (by kernel_rfl)
theorem szf9 : (Tryz.prog.info? 9).map (·.size) = some 1 := by kernel_rfl
theorem fa255_1 : FA Tryz.prog 255 1 1 := FA.of (T := 9) (k := 0) (by kernel_rfl) (by kernel_rfl)
theorem agg255 : Agg Tryz.prog 255 2 := Agg.of (by kernel_rfl) (by kernel_rfl)
theorem szf255 : (Tryz.prog.info? 255).map (·.size) = some 2 := by kernel_rfl
theorem fn332 : FN Tryz.prog 332 := FN.of Tryz.func332 (by kernel_rfl) (by kernel_rfl)
theorem slt163 : SlT Tryz.prog 163 255 2 := ⟨by kernel_rfl, by kernel_rfl⟩
theorem fa165_1 : FA Tryz.prog 165 1 1 := FA.of (T := 9) (k := 0) (by kernel_rfl) (by kernel_rfl)
theorem fa260_2 : FA Tryz.prog 260 2 2 := FA.of (T := 3) (k := 0) (by kernel_rfl) (by kernel_rfl)
theorem fa165_2 : FA Tryz.prog 165 2 2 := FA.of (T := 3) (k := 0) (by kernel_rfl) (by kernel_rfl)
theorem szf3 : (Tryz.prog.info? 3).map (·.size) = some 1 := by kernel_rfl
theorem fn282 : FN Tryz.prog 282 := FN.of Tryz.func282 (by kernel_rfl) (by kernel_rfl)
theorem fn221 : FN Tryz.prog 221 := FN.of Tryz.func221 (by kernel_rfl) (by kernel_rfl)
theorem slt62 : SlT Tryz.prog 62 3 1 := ⟨by kernel_rfl, by kernel_rfl⟩
theorem fn145 : FN Tryz.prog 145 := FN.of Tryz.func145 (by kernel_rfl) (by kernel_rfl)
theorem fn146 : FN Tryz.prog 146 := FN.of Tryz.func146 (by kernel_rfl) (by kernel_rfl)
theorem szf62 : (Tryz.prog.info? 62).map (·.size) = some 1 := by kernel_rfl
theorem zt60 : ZT Tryz.prog 60 [.string ⟨#[]⟩, .int .i64 0] := ZT.of (z := .agg #[.string ⟨#[]⟩, .int .i64 0]) (by kernel_rfl) rfl
theorem fa316_1 : FA Tryz.prog 316 1 1 := FA.of (T := 3) (k := 0) (by kernel_rfl) (by kernel_rfl)
theorem agg60 : Agg Tryz.prog 60 2 := Agg.of (by kernel_rfl) (by kernel_rfl)
theorem szf60 : (Tryz.prog.info? 60).map (·.size) = some 2 := by kernel_rfl
theorem elt49 : ElT Tryz.prog 49 60 (⟨[], 0⟩ : TRule) 24 := ElT.of (zv := .agg #[.string ⟨#[]⟩, .int .i64 0]) (by kernel_rfl) (by kernel_rfl) rfl (fun w => own_flat (TRule.zok w))
theorem fn283 : FN Tryz.prog 283 := FN.of Tryz.func283 (by kernel_rfl) (by kernel_rfl)
theorem zt51 : ZT Tryz.prog 51 [.slice none 0 0] := ZT.of (z := .agg #[.slice none 0 0]) (by kernel_rfl) rfl
theorem fn222 : FN Tryz.prog 222 := FN.of Tryz.func222 (by kernel_rfl) (by kernel_rfl)
theorem szf49 : (Tryz.prog.info? 49).map (·.size) = some 1 := by kernel_rfl
theorem agg51 : Agg Tryz.prog 51 1 := Agg.of (by kernel_rfl) (by kernel_rfl)
theorem szf51 : (Tryz.prog.info? 51).map (·.size) = some 1 := by kernel_rfl
theorem elt54 : ElT Tryz.prog 54 51 (⟨⟨[], none, 0⟩⟩ : PSheet) 24 := ElT.of (zv := .agg #[.slice none 0 0]) (by kernel_rfl) (by kernel_rfl) rfl (fun w => PSheet.zown w)
theorem fn147 : FN Tryz.prog 147 := FN.of Tryz.func147 (by kernel_rfl) (by kernel_rfl)
theorem slu163 : Tryz.prog.underlying 163 = some (.slice 255) := by kernel_rfl
theorem fn333 : FN Tryz.prog 333 := FN.of Tryz.func333 (by kernel_rfl) (by kernel_rfl)
theorem fn284 : FN Tryz.prog 284 := FN.of Tryz.func284 (by kernel_rfl) (by kernel_rfl)
theorem fn223 : FN Tryz.prog 223 := FN.of Tryz.func223 (by kernel_rfl) (by kernel_rfl)
theorem fn148 : FN Tryz.prog 148 := FN.of Tryz.func148 (by kernel_rfl) (by kernel_rfl)
theorem fn149 : FN Tryz.prog 149 := FN.of Tryz.func149 (by kernel_rfl) (by kernel_rfl)
theorem fn285 : FN Tryz.prog 285 := FN.of Tryz.func285 (by kernel_rfl) (by kernel_rfl)
theorem fn224 : FN Tryz.prog 224 := FN.of Tryz.func224 (by kernel_rfl) (by kernel_rfl)
theorem fn150 : FN Tryz.prog 150 := FN.of Tryz.func150 (by kernel_rfl) (by kernel_rfl)
theorem u8t5 : Tryz.prog.underlying 5 = some (.int .u8) := by kernel_rfl
theorem sll22 : SlLit Tryz.prog 22 5 1 [.int .u8 0] := SlLit.of (zv := .int .u8 0) (by kernel_rfl) (by kernel_rfl) (by kernel_rfl) rfl
theorem slu22 : Tryz.prog.underlying 22 = some (.slice 5) := by kernel_rfl
theorem fn172 : FN Tryz.prog 172 := FN.of Tryz.func172 (by kernel_rfl) (by kernel_rfl)
theorem fn225 : FN Tryz.prog 225 := FN.of Tryz.func225 (by kernel_rfl) (by kernel_rfl)
theorem fn151 : FN Tryz.prog 151 := FN.of Tryz.func151 (by kernel_rfl) (by kernel_rfl)
theorem fn152 : FN Tryz.prog 152 := FN.of Tryz.func152 (by kernel_rfl) (by kernel_rfl)
theorem fn153 : FN Tryz.prog 153 := FN.of Tryz.func153 (by kernel_rfl) (by kernel_rfl)
theorem fn226 : FN Tryz.prog 226 := FN.of Tryz.func226 (by kernel_rfl) (by kernel_rfl)
theorem fn154 : FN Tryz.prog 154 := FN.of Tryz.func154 (by kernel_rfl) (by kernel_rfl)
theorem fn155 : FN Tryz.prog 155 := FN.of Tryz.func155 (by kernel_rfl) (by kernel_rfl)
theorem fa97_1 : FA Tryz.prog 97 1 1 := FA.of (T := 9) (k := 0) (by kernel_rfl) (by kernel_rfl)
theorem slu126 : Tryz.prog.underlying 126 = some (.slice 97) := by kernel_rfl
theorem slt126 : SlT Tryz.prog 126 97 2 := ⟨by kernel_rfl, by kernel_rfl⟩
theorem agg97 : Agg Tryz.prog 97 2 := Agg.of (by kernel_rfl) (by kernel_rfl)
theorem fn51 : FN Tryz.prog 51 := FN.of Tryz.func51 (by kernel_rfl) (by kernel_rfl)
theorem fn95 : FN Tryz.prog 95 := FN.of Tryz.func95 (by kernel_rfl) (by kernel_rfl)
theorem fn218 : FN Tryz.prog 218 := FN.of Tryz.func218 (by kernel_rfl) (by kernel_rfl)
theorem fn139 : FN Tryz.prog 139 := FN.of Tryz.func139 (by kernel_rfl) (by kernel_rfl)
theorem fn140 : FN Tryz.prog 140 := FN.of Tryz.func140 (by kernel_rfl) (by kernel_rfl)
theorem fn110 : FN Tryz.prog 110 := FN.of Tryz.func110 (by kernel_rfl) (by kernel_rfl)
theorem fn141 : FN Tryz.prog 141 := FN.of Tryz.func141 (by kernel_rfl) (by kernel_rfl)
theorem fn68 : FN Tryz.prog 68 := FN.of Tryz.func68 (by kernel_rfl) (by kernel_rfl)
theorem fn119 : FN Tryz.prog 119 := FN.of Tryz.func119 (by kernel_rfl) (by kernel_rfl)
theorem fn48 : FN Tryz.prog 48 := FN.of Tryz.func48 (by kernel_rfl) (by kernel_rfl)
theorem fa97_0 : FA Tryz.prog 97 0 0 := FA.of (T := 3) (k := 0) (by kernel_rfl) (by kernel_rfl)
theorem elt79 : ElT Tryz.prog 79 87 (⟨0, []⟩ : TLine) 24 := ElT.of (zv := .agg #[.int .i64 0, .string ⟨#[]⟩]) (by kernel_rfl) (by kernel_rfl) rfl (fun w => own_flat (TLine.zok w))
theorem fn54 : FN Tryz.prog 54 := FN.of Tryz.func54 (by kernel_rfl) (by kernel_rfl)
theorem slu34 : Tryz.prog.underlying 34 = some (.slice 9) := by kernel_rfl
theorem slt34 : SlT Tryz.prog 34 9 1 := ⟨by kernel_rfl, by kernel_rfl⟩
theorem fn171 : FN Tryz.prog 171 := FN.of Tryz.func171 (by kernel_rfl) (by kernel_rfl)
theorem agg95 : Agg Tryz.prog 95 2 := Agg.of (by kernel_rfl) (by kernel_rfl)
theorem fn49 : FN Tryz.prog 49 := FN.of Tryz.func49 (by kernel_rfl) (by kernel_rfl)
theorem fn50 : FN Tryz.prog 50 := FN.of Tryz.func50 (by kernel_rfl) (by kernel_rfl)
theorem fn75 : FN Tryz.prog 75 := FN.of Tryz.func75 (by kernel_rfl) (by kernel_rfl)
theorem fn52 : FN Tryz.prog 52 := FN.of Tryz.func52 (by kernel_rfl) (by kernel_rfl)
theorem fn53 : FN Tryz.prog 53 := FN.of Tryz.func53 (by kernel_rfl) (by kernel_rfl)
theorem fn77 : FN Tryz.prog 77 := FN.of Tryz.func77 (by kernel_rfl) (by kernel_rfl)
theorem fn76 : FN Tryz.prog 76 := FN.of Tryz.func76 (by kernel_rfl) (by kernel_rfl)
theorem fn42 : FN Tryz.prog 42 := FN.of Tryz.func42 (by kernel_rfl) (by kernel_rfl)
theorem fn55 : FN Tryz.prog 55 := FN.of Tryz.func55 (by kernel_rfl) (by kernel_rfl)
theorem fn78 : FN Tryz.prog 78 := FN.of Tryz.func78 (by kernel_rfl) (by kernel_rfl)
theorem fn56 : FN Tryz.prog 56 := FN.of Tryz.func56 (by kernel_rfl) (by kernel_rfl)
theorem fn79 : FN Tryz.prog 79 := FN.of Tryz.func79 (by kernel_rfl) (by kernel_rfl)
theorem fn57 : FN Tryz.prog 57 := FN.of Tryz.func57 (by kernel_rfl) (by kernel_rfl)
theorem fn58 : FN Tryz.prog 58 := FN.of Tryz.func58 (by kernel_rfl) (by kernel_rfl)
theorem fn80 : FN Tryz.prog 80 := FN.of Tryz.func80 (by kernel_rfl) (by kernel_rfl)
theorem fn81 : FN Tryz.prog 81 := FN.of Tryz.func81 (by kernel_rfl) (by kernel_rfl)
theorem fn59 : FN Tryz.prog 59 := FN.of Tryz.func59 (by kernel_rfl) (by kernel_rfl)
theorem fn82 : FN Tryz.prog 82 := FN.of Tryz.func82 (by kernel_rfl) (by kernel_rfl)

end Go.Sw
