/- Facts on the types and functions of this translation, each closed. No conditions. -/
import Derived.Test.YtpnmdcomdakdmaaGreatDoorRows
import Derived.Test.YtpnmdcomdakdmaaGreatDoorLibW
import Derived.Test.YtpnmdcomdakdmaaGreatDoorLibL
import Derived.Test.YtpnmdcomdakdmaaGreatDoorSh
import Derived.Test.YtpnmdcomdakdmaaGreatDoorSc
import Derived.WalkSpells
namespace Go.Sw
open Go Go.RowKit Go.Proofs

theorem Q10 {p : Prop} (h : p := by first | assumption | omega | (simp only [lsz] at *; omega) | (simp only [lsz, strsz, TPolicy.size, TCache.size, TAddr.size, TRequest.size, TEntry.size, TResponse.size, TLine.size] at *; omega) | (simp only [lsz_map, TPage.size, TBuilder.size, TNode.size, TToken.size, TTokenizer.size, TServer.size, TFile.size, TNet.size, TCache.size, TSheet.size, strsz] at *; omega) | (simp only [lsz_map, TPage.size, TBuilder.size, TNode.size, TToken.size, TTokenizer.size, TServer.size, TFile.size, TNet.size, TCache.size, TSheet.size, strsz, lsz] at *; omega)) : p := h
theorem Q1 {p : Prop} (h : p := by repeat (first | exact List.mem_cons_self | apply List.mem_cons_of_mem)) : p := h
theorem Q2 {p : Prop} (h : p := by repeat (first | exact Sel.nil | (apply Sel.cons; (repeat (first | exact Ext.here | apply Ext.there))))) : p := h
theorem Q4 {p : Prop} (h : p := by repeat (first | exact Fill.nil | (apply Fill.cons; rfl; rfl; rfl; repeat (first | (apply SetAt.here; repeat (first | exact Over.nil | apply Over.cons)) | apply SetAt.there)))) : p := h
theorem Q3 {p : Prop} (h : p := by repeat (first | (apply SetAt.here; repeat (first | exact Over.nil | apply Over.cons)) | apply SetAt.there)) : p := h
theorem Q5 {p : Prop} (h : p := by repeat (first | exact Repl.here | apply Repl.there)) : p := h
theorem Q6 {p : Prop} (h : p := by kernel_rfl) : p := h
theorem Q7 {p : Prop} (h : p := by omega) : p := h
theorem Q0 {p : Prop} (h : p := by rfl) : p := h
theorem Qm {P : Program} {n : Nat} {ops : Array Oper} {Q : Exit → Act → World → Prop} {rest : List Oper} {e : Env} {w : World} {t : Nat} {ty : TypeId} {pos : String} {aft : Array Edge} {x : Operand} {v : Value} (h : WL P n ops Q rest ((t, v) :: e) w) (ht : Nat.blt t n = true := by rfl) (hx : ev? e x = some v := by rfl) : WL P n ops Q (⟨some t, .move x, ty, pos, aft, none⟩ :: rest) e w := WL.p ht (Yl.move hx) h
theorem Qa {P : Program} {n : Nat} {ops : Array Oper} {Q : Exit → Act → World → Prop} {rest : List Oper} {e : Env} {w : World} {t : Nat} {ty : TypeId} {pos : String} {aft : Array Edge} {x : Operand} {v : Value} (h : WL P n ops Q rest ((t, v) :: e) w) (ht : Nat.blt t n = true := by rfl) (hx : ev? e x = some v := by rfl) : WL P n ops Q (⟨some t, .assign x, ty, pos, aft, none⟩ :: rest) e w := WL.p ht (Yl.assign hx) h
theorem slu22 : Tryz.prog.underlying 22 = some (.slice 5) := by kernel_rfl
theorem u8t5 : Tryz.prog.underlying 5 = some (.int .u8) := by kernel_rfl
theorem sll22 : SlLit Tryz.prog 22 5 1 [.int .u8 0] := SlLit.of (zv := .int .u8 0) (by kernel_rfl) (by kernel_rfl) (by kernel_rfl) rfl
theorem str9 : Tryz.prog.underlying 9 = some .string := by kernel_rfl
theorem fn95 : FN Tryz.prog 95 := FN.of Tryz.func95 (by kernel_rfl) (by kernel_rfl)
theorem slu62 : Tryz.prog.underlying 62 = some (.slice 3) := by kernel_rfl
theorem slt62 : SlT Tryz.prog 62 3 1 := ⟨by kernel_rfl, by kernel_rfl⟩
theorem sca3 : Sca Tryz.prog 3 := Sca.of (by kernel_rfl) (by kernel_rfl)
theorem fn236 : FN Tryz.prog 236 := FN.of Tryz.func236 (by kernel_rfl) (by kernel_rfl)
theorem sll62 : SlLit Tryz.prog 62 3 1 [.int .i64 0] := SlLit.of (zv := .int .i64 0) (by kernel_rfl) (by kernel_rfl) (by kernel_rfl) rfl
theorem slt22 : SlT Tryz.prog 22 5 1 := ⟨by kernel_rfl, by kernel_rfl⟩
theorem sca5 : Sca Tryz.prog 5 := Sca.of (by kernel_rfl) (by kernel_rfl)
theorem i64t3 : Tryz.prog.underlying 3 = some (.int .i64) := by kernel_rfl
theorem elt62 : ElT Tryz.prog 62 3 (0 : Int) 8 := ElT.of (zv := .int .i64 0) (by kernel_rfl) (by kernel_rfl) rfl (fun w => own_flat (⟨by decide, by decide⟩))
theorem fn168 : FN Tryz.prog 168 := FN.of Tryz.func168 (by kernel_rfl) (by kernel_rfl)
theorem fn167 : FN Tryz.prog 167 := FN.of Tryz.func167 (by kernel_rfl) (by kernel_rfl)
theorem bt205 : BT Tryz.prog 205 [.slice none 0 0, .int .i64 0, .int .i64 0] [(0, 1), (1, 1), (2, 1)] := BT.of (z := .agg #[.slice none 0 0, .int .i64 0, .int .i64 0]) (by kernel_rfl) (by kernel_rfl) rfl (fun w => by kernel_rfl)
theorem fa205_2 : FA Tryz.prog 205 2 2 := FA.of (T := 3) (k := 0) (by kernel_rfl) (by kernel_rfl)
theorem szf3 : (Tryz.prog.info? 3).map (·.size) = some 1 := by kernel_rfl
theorem mixed : Tryz.prog.follows .mixedOrders = true := by kernel_rfl
theorem fa205_1 : FA Tryz.prog 205 1 1 := FA.of (T := 3) (k := 0) (by kernel_rfl) (by kernel_rfl)
theorem fa205_0 : FA Tryz.prog 205 0 0 := FA.of (T := 22) (k := 0) (by kernel_rfl) (by kernel_rfl)
theorem sca22 : Sca Tryz.prog 22 := Sca.of (by kernel_rfl) (by kernel_rfl)
theorem fn206 : FN Tryz.prog 206 := FN.of Tryz.func206 (by kernel_rfl) (by kernel_rfl)
theorem fn118 : FN Tryz.prog 118 := FN.of Tryz.func118 (by kernel_rfl) (by kernel_rfl)
theorem sll34 : SlLit Tryz.prog 34 9 1 [.string ⟨#[]⟩] := SlLit.of (zv := .string ⟨#[]⟩) (by kernel_rfl) (by kernel_rfl) (by kernel_rfl) rfl
theorem slu34 : Tryz.prog.underlying 34 = some (.slice 9) := by kernel_rfl
theorem slt34 : SlT Tryz.prog 34 9 1 := ⟨by kernel_rfl, by kernel_rfl⟩
theorem sca9 : Sca Tryz.prog 9 := Sca.of (by kernel_rfl) (by kernel_rfl)
theorem fn100 : FN Tryz.prog 100 := FN.of Tryz.func100 (by kernel_rfl) (by kernel_rfl)
theorem elt34 : ElT Tryz.prog 34 9 ([] : Str) 16 := ElT.of (zv := .string ⟨#[]⟩) (by kernel_rfl) (by kernel_rfl) rfl (fun w => own_flat (Nat.zero_le _))
theorem zt108 : ZT Tryz.prog 108 [.bool false, .slice none 0 0, .slice none 0 0, .slice none 0 0, .string ⟨#[]⟩] := ZT.of (z := .agg #[.bool false, .slice none 0 0, .slice none 0 0, .slice none 0 0, .string ⟨#[]⟩]) (by kernel_rfl) rfl
theorem bt108 : BT Tryz.prog 108 [.bool false, .slice none 0 0, .slice none 0 0, .slice none 0 0, .string ⟨#[]⟩] [(0, 1), (1, 1), (2, 1), (3, 1), (4, 1)] := BT.of (z := .agg #[.bool false, .slice none 0 0, .slice none 0 0, .slice none 0 0, .string ⟨#[]⟩]) (by kernel_rfl) (by kernel_rfl) rfl (fun w => by kernel_rfl)
theorem szf108 : (Tryz.prog.info? 108).map (·.size) = some 5 := by kernel_rfl
theorem agg108 : Agg Tryz.prog 108 5 := Agg.of (by kernel_rfl) (by kernel_rfl)
theorem fn227 : FN Tryz.prog 227 := FN.of Tryz.func227 (by kernel_rfl) (by kernel_rfl)
theorem fa108_4 : FA Tryz.prog 108 4 4 := FA.of (T := 9) (k := 0) (by kernel_rfl) (by kernel_rfl)
theorem szf9 : (Tryz.prog.info? 9).map (·.size) = some 1 := by kernel_rfl
theorem fn102 : FN Tryz.prog 102 := FN.of Tryz.func102 (by kernel_rfl) (by kernel_rfl)
theorem zt39 : ZT Tryz.prog 39 [.string ⟨#[]⟩, .string ⟨#[]⟩] := ZT.of (z := .agg #[.string ⟨#[]⟩, .string ⟨#[]⟩]) (by kernel_rfl) rfl
theorem fn85 : FN Tryz.prog 85 := FN.of Tryz.func85 (by kernel_rfl) (by kernel_rfl)
theorem fn240 : FN Tryz.prog 240 := FN.of Tryz.func240 (by kernel_rfl) (by kernel_rfl)
theorem bt39 : BT Tryz.prog 39 [.string ⟨#[]⟩, .string ⟨#[]⟩] [(0, 1), (1, 1)] := BT.of (z := .agg #[.string ⟨#[]⟩, .string ⟨#[]⟩]) (by kernel_rfl) (by kernel_rfl) rfl (fun w => by kernel_rfl)
theorem szf39 : (Tryz.prog.info? 39).map (·.size) = some 2 := by kernel_rfl
theorem agg39 : Agg Tryz.prog 39 2 := Agg.of (by kernel_rfl) (by kernel_rfl)
theorem fn176 : FN Tryz.prog 176 := FN.of Tryz.func176 (by kernel_rfl) (by kernel_rfl)
theorem fa39_0 : FA Tryz.prog 39 0 0 := FA.of (T := 9) (k := 0) (by kernel_rfl) (by kernel_rfl)
theorem fa39_1 : FA Tryz.prog 39 1 1 := FA.of (T := 9) (k := 0) (by kernel_rfl) (by kernel_rfl)
theorem zt110 : ZT Tryz.prog 110 [.int .i64 0, .string ⟨#[]⟩, .string ⟨#[]⟩, .string ⟨#[]⟩, .string ⟨#[]⟩] := ZT.of (z := .agg #[.int .i64 0, .string ⟨#[]⟩, .string ⟨#[]⟩, .string ⟨#[]⟩, .string ⟨#[]⟩]) (by kernel_rfl) rfl
theorem bt110 : BT Tryz.prog 110 [.int .i64 0, .string ⟨#[]⟩, .string ⟨#[]⟩, .string ⟨#[]⟩, .string ⟨#[]⟩] [(0, 1), (1, 2), (3, 1), (4, 1)] := BT.of (z := .agg #[.int .i64 0, .string ⟨#[]⟩, .string ⟨#[]⟩, .string ⟨#[]⟩, .string ⟨#[]⟩]) (by kernel_rfl) (by kernel_rfl) rfl (fun w => by kernel_rfl)
theorem szf110 : (Tryz.prog.info? 110).map (·.size) = some 5 := by kernel_rfl
theorem agg110 : Agg Tryz.prog 110 5 := Agg.of (by kernel_rfl) (by kernel_rfl)
theorem fn228 : FN Tryz.prog 228 := FN.of Tryz.func228 (by kernel_rfl) (by kernel_rfl)
theorem fn88 : FN Tryz.prog 88 := FN.of Tryz.func88 (by kernel_rfl) (by kernel_rfl)
theorem fa110_0 : FA Tryz.prog 110 0 0 := FA.of (T := 3) (k := 0) (by kernel_rfl) (by kernel_rfl)
theorem fn120 : FN Tryz.prog 120 := FN.of Tryz.func120 (by kernel_rfl) (by kernel_rfl)
theorem fa110_1 : FA Tryz.prog 110 1 1 := FA.of (T := 39) (k := 1) (by kernel_rfl) (by kernel_rfl)
theorem fa110_2 : FA Tryz.prog 110 2 3 := FA.of (T := 9) (k := 0) (by kernel_rfl) (by kernel_rfl)
theorem fa110_3 : FA Tryz.prog 110 3 4 := FA.of (T := 9) (k := 0) (by kernel_rfl) (by kernel_rfl)
theorem fn324 : FN Tryz.prog 324 := FN.of Tryz.func324 (by kernel_rfl) (by kernel_rfl)
theorem fn214 : FN Tryz.prog 214 := FN.of Tryz.func214 (by kernel_rfl) (by kernel_rfl)
theorem fn101 : FN Tryz.prog 101 := FN.of Tryz.func101 (by kernel_rfl) (by kernel_rfl)
theorem fn269 : FN Tryz.prog 269 := FN.of Tryz.func269 (by kernel_rfl) (by kernel_rfl)
theorem fn110 : FN Tryz.prog 110 := FN.of Tryz.func110 (by kernel_rfl) (by kernel_rfl)
theorem fa108_0 : FA Tryz.prog 108 0 0 := FA.of (T := 4) (k := 0) (by kernel_rfl) (by kernel_rfl)
theorem sca4 : Sca Tryz.prog 4 := Sca.of (by kernel_rfl) (by kernel_rfl)
theorem fa108_1 : FA Tryz.prog 108 1 1 := FA.of (T := 34) (k := 0) (by kernel_rfl) (by kernel_rfl)
theorem sca34 : Sca Tryz.prog 34 := Sca.of (by kernel_rfl) (by kernel_rfl)
theorem fa108_2 : FA Tryz.prog 108 2 2 := FA.of (T := 34) (k := 0) (by kernel_rfl) (by kernel_rfl)
theorem fa108_3 : FA Tryz.prog 108 3 3 := FA.of (T := 34) (k := 0) (by kernel_rfl) (by kernel_rfl)
theorem fn334 : FN Tryz.prog 334 := FN.of Tryz.func334 (by kernel_rfl) (by kernel_rfl)
theorem fn237 : FN Tryz.prog 237 := FN.of Tryz.func237 (by kernel_rfl) (by kernel_rfl)
theorem fn286 : FN Tryz.prog 286 := FN.of Tryz.func286 (by kernel_rfl) (by kernel_rfl)
theorem fn287 : FN Tryz.prog 287 := FN.of Tryz.func287 (by kernel_rfl) (by kernel_rfl)
theorem zt72 : ZT Tryz.prog 72 [.int .i64 0, .int .i64 0, .string ⟨#[]⟩, .int .i64 0, .bool false, .string ⟨#[]⟩] := ZT.of (z := .agg #[.int .i64 0, .int .i64 0, .string ⟨#[]⟩, .int .i64 0, .bool false, .string ⟨#[]⟩]) (by kernel_rfl) rfl
theorem fn229 : FN Tryz.prog 229 := FN.of Tryz.func229 (by kernel_rfl) (by kernel_rfl)
theorem bt72 : BT Tryz.prog 72 [.int .i64 0, .int .i64 0, .string ⟨#[]⟩, .int .i64 0, .bool false, .string ⟨#[]⟩] [(0, 1), (1, 1), (2, 1), (3, 1), (4, 1), (5, 1)] := BT.of (z := .agg #[.int .i64 0, .int .i64 0, .string ⟨#[]⟩, .int .i64 0, .bool false, .string ⟨#[]⟩]) (by kernel_rfl) (by kernel_rfl) rfl (fun w => by kernel_rfl)
theorem szf72 : (Tryz.prog.info? 72).map (·.size) = some 6 := by kernel_rfl
theorem fn156 : FN Tryz.prog 156 := FN.of Tryz.func156 (by kernel_rfl) (by kernel_rfl)
theorem fn230 : FN Tryz.prog 230 := FN.of Tryz.func230 (by kernel_rfl) (by kernel_rfl)
theorem fa72_5 : FA Tryz.prog 72 5 5 := FA.of (T := 9) (k := 0) (by kernel_rfl) (by kernel_rfl)
theorem agg72 : Agg Tryz.prog 72 6 := Agg.of (by kernel_rfl) (by kernel_rfl)
theorem fn158 : FN Tryz.prog 158 := FN.of Tryz.func158 (by kernel_rfl) (by kernel_rfl)
theorem fa72_0 : FA Tryz.prog 72 0 0 := FA.of (T := 3) (k := 0) (by kernel_rfl) (by kernel_rfl)
theorem fa72_1 : FA Tryz.prog 72 1 1 := FA.of (T := 3) (k := 0) (by kernel_rfl) (by kernel_rfl)
theorem fa72_3 : FA Tryz.prog 72 3 3 := FA.of (T := 3) (k := 0) (by kernel_rfl) (by kernel_rfl)
theorem fa72_2 : FA Tryz.prog 72 2 2 := FA.of (T := 9) (k := 0) (by kernel_rfl) (by kernel_rfl)
theorem fn83 : FN Tryz.prog 83 := FN.of Tryz.func83 (by kernel_rfl) (by kernel_rfl)
theorem fn157 : FN Tryz.prog 157 := FN.of Tryz.func157 (by kernel_rfl) (by kernel_rfl)
theorem fn159 : FN Tryz.prog 159 := FN.of Tryz.func159 (by kernel_rfl) (by kernel_rfl)
theorem fn69 : FN Tryz.prog 69 := FN.of Tryz.func69 (by kernel_rfl) (by kernel_rfl)
theorem fn68 : FN Tryz.prog 68 := FN.of Tryz.func68 (by kernel_rfl) (by kernel_rfl)
theorem fn235 : FN Tryz.prog 235 := FN.of Tryz.func235 (by kernel_rfl) (by kernel_rfl)
theorem fn166 : FN Tryz.prog 166 := FN.of Tryz.func166 (by kernel_rfl) (by kernel_rfl)
theorem fn90 : FN Tryz.prog 90 := FN.of Tryz.func90 (by kernel_rfl) (by kernel_rfl)
theorem fn106 : FN Tryz.prog 106 := FN.of Tryz.func106 (by kernel_rfl) (by kernel_rfl)
theorem fn121 : FN Tryz.prog 121 := FN.of Tryz.func121 (by kernel_rfl) (by kernel_rfl)
theorem fn234 : FN Tryz.prog 234 := FN.of Tryz.func234 (by kernel_rfl) (by kernel_rfl)
theorem fn165 : FN Tryz.prog 165 := FN.of Tryz.func165 (by kernel_rfl) (by kernel_rfl)
theorem fn66 : FN Tryz.prog 66 := FN.of Tryz.func66 (by kernel_rfl) (by kernel_rfl)
theorem fn379 : FN Tryz.prog 379 := FN.of Tryz.func379 (by kernel_rfl) (by kernel_rfl)
theorem fn369 : FN Tryz.prog 369 := FN.of Tryz.func369 (by kernel_rfl) (by kernel_rfl)
theorem fn370 : FN Tryz.prog 370 := FN.of Tryz.func370 (by kernel_rfl) (by kernel_rfl)
theorem fn354 : FN Tryz.prog 354 := FN.of Tryz.func354 (by kernel_rfl) (by kernel_rfl)
theorem fn326 : FN Tryz.prog 326 := FN.of Tryz.func326 (by kernel_rfl) (by kernel_rfl)
theorem fn113 : FN Tryz.prog 113 := FN.of Tryz.func113 (by kernel_rfl) (by kernel_rfl)
theorem szf34 : (Tryz.prog.info? 34).map (·.size) = some 1 := by kernel_rfl
theorem fn103 : FN Tryz.prog 103 := FN.of Tryz.func103 (by kernel_rfl) (by kernel_rfl)
theorem arr293 : Tryz.prog.underlying 293 = some (.array 3 34) := by kernel_rfl
theorem zt293 : ZT Tryz.prog 293 [.slice none 0 0, .slice none 0 0, .slice none 0 0] := ZT.of (z := .agg #[.slice none 0 0, .slice none 0 0, .slice none 0 0]) (by kernel_rfl) rfl
theorem szf293 : (Tryz.prog.info? 293).map (·.size) = some 3 := by kernel_rfl
theorem fn274 : FN Tryz.prog 274 := FN.of Tryz.func274 (by kernel_rfl) (by kernel_rfl)
theorem fn275 : FN Tryz.prog 275 := FN.of Tryz.func275 (by kernel_rfl) (by kernel_rfl)
theorem fn276 : FN Tryz.prog 276 := FN.of Tryz.func276 (by kernel_rfl) (by kernel_rfl)
theorem fn212 : FN Tryz.prog 212 := FN.of Tryz.func212 (by kernel_rfl) (by kernel_rfl)
theorem fn198 : FN Tryz.prog 198 := FN.of Tryz.func198 (by kernel_rfl) (by kernel_rfl)
theorem fn335 : FN Tryz.prog 335 := FN.of Tryz.func335 (by kernel_rfl) (by kernel_rfl)
theorem fn289 : FN Tryz.prog 289 := FN.of Tryz.func289 (by kernel_rfl) (by kernel_rfl)
theorem fn288 : FN Tryz.prog 288 := FN.of Tryz.func288 (by kernel_rfl) (by kernel_rfl)
theorem fn231 : FN Tryz.prog 231 := FN.of Tryz.func231 (by kernel_rfl) (by kernel_rfl)
theorem fn112 : FN Tryz.prog 112 := FN.of Tryz.func112 (by kernel_rfl) (by kernel_rfl)
theorem fn65 : FN Tryz.prog 65 := FN.of Tryz.func65 (by kernel_rfl) (by kernel_rfl)
theorem fn130 : FN Tryz.prog 130 := FN.of Tryz.func130 (by kernel_rfl) (by kernel_rfl)
theorem fn160 : FN Tryz.prog 160 := FN.of Tryz.func160 (by kernel_rfl) (by kernel_rfl)
theorem fa72_4 : FA Tryz.prog 72 4 4 := FA.of (T := 4) (k := 0) (by kernel_rfl) (by kernel_rfl)
theorem fn161 : FN Tryz.prog 161 := FN.of Tryz.func161 (by kernel_rfl) (by kernel_rfl)
theorem fn61 : FN Tryz.prog 61 := FN.of Tryz.func61 (by kernel_rfl) (by kernel_rfl)
theorem fn40 : FN Tryz.prog 40 := FN.of Tryz.func40 (by kernel_rfl) (by kernel_rfl)
theorem fn290 : FN Tryz.prog 290 := FN.of Tryz.func290 (by kernel_rfl) (by kernel_rfl)
theorem fn170 : FN Tryz.prog 170 := FN.of Tryz.func170 (by kernel_rfl) (by kernel_rfl)
theorem fn232 : FN Tryz.prog 232 := FN.of Tryz.func232 (by kernel_rfl) (by kernel_rfl)
theorem fn109 : FN Tryz.prog 109 := FN.of Tryz.func109 (by kernel_rfl) (by kernel_rfl)
theorem fn233 : FN Tryz.prog 233 := FN.of Tryz.func233 (by kernel_rfl) (by kernel_rfl)
theorem fn162 : FN Tryz.prog 162 := FN.of Tryz.func162 (by kernel_rfl) (by kernel_rfl)
theorem fn163 : FN Tryz.prog 163 := FN.of Tryz.func163 (by kernel_rfl) (by kernel_rfl)
theorem fn67 : FN Tryz.prog 67 := FN.of Tryz.func67 (by kernel_rfl) (by kernel_rfl)
theorem fn164 : FN Tryz.prog 164 := FN.of Tryz.func164 (by kernel_rfl) (by kernel_rfl)
theorem fn169 : FN Tryz.prog 169 := FN.of Tryz.func169 (by kernel_rfl) (by kernel_rfl)
theorem eqin39 (d : Nat) (x y : TAddr) (w : World) : (Op.equalIn (d + 2) 39 (.agg #[S x.host, S x.path]) (.agg #[S y.host, S y.path])).run Tryz.prog w = .ok (decide (x = y)) w := by
  have hf : Tryz.prog.fieldsOf 39 = #[⟨ "Host", 9, 0, false, "", "", 0⟩, ⟨ "Path", 9, 1, false, "", "", 16⟩] := by kernel_rfl
  rw [run_equalIn_agg w (d + 1) 39 _ _ (by kernel_rfl) (by kernel_rfl), hf]
  simp [Op.eqFields, go_sem, TAddr.ext_iff]
  try ((repeat' split) <;> simp_all)
theorem eqt39 : EqT Tryz.prog 39 (α := TAddr) := run_eqt_of (eqin39 9998) (by kernel_rfl)
theorem fn10 : FN Tryz.prog 10 := FN.of Tryz.func10 (by kernel_rfl) (by kernel_rfl)
theorem fn60 : FN Tryz.prog 60 := FN.of Tryz.func60 (by kernel_rfl) (by kernel_rfl)
theorem fn62 : FN Tryz.prog 62 := FN.of Tryz.func62 (by kernel_rfl) (by kernel_rfl)
theorem fn63 : FN Tryz.prog 63 := FN.of Tryz.func63 (by kernel_rfl) (by kernel_rfl)
theorem bool4 : Tryz.prog.underlying 4 = some .bool := by kernel_rfl
theorem fn64 : FN Tryz.prog 64 := FN.of Tryz.func64 (by kernel_rfl) (by kernel_rfl)
theorem fn70 : FN Tryz.prog 70 := FN.of Tryz.func70 (by kernel_rfl) (by kernel_rfl)
theorem fn71 : FN Tryz.prog 71 := FN.of Tryz.func71 (by kernel_rfl) (by kernel_rfl)
theorem fn72 : FN Tryz.prog 72 := FN.of Tryz.func72 (by kernel_rfl) (by kernel_rfl)
theorem fn73 : FN Tryz.prog 73 := FN.of Tryz.func73 (by kernel_rfl) (by kernel_rfl)
theorem fn74 : FN Tryz.prog 74 := FN.of Tryz.func74 (by kernel_rfl) (by kernel_rfl)

end Go.Sw
