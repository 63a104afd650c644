/- Facts on the types and functions of this translation, each closed. No conditions. -/
import Derived.Test.YtppjnohcfljmoaaGreatDoorRows
import Derived.Test.YtppjnohcfljmoaaGreatDoorLibZ
import Derived.Test.YtppjnohcfljmoaaGreatDoorSh
import Derived.WalkSpells
namespace Go.Sw
open Go Go.RowKit Go.Proofs

theorem Q10 {p : Prop} (h : p := by first | assumption | omega | (simp only [lsz] at *; omega) | (simp only [lsz, strsz, TPolicy.size, TCache.size, TAddr.size, TRequest.size, TEntry.size, TResponse.size, TLine.size] at *; omega) | (simp only [lsz_map, TPage.size, TBuilder.size, TNode.size, TToken.size, TTokenizer.size, TServer.size, TFile.size, TNet.size, TCache.size, TSheet.size, strsz] at *; omega) | (simp only [lsz_map, TPage.size, TBuilder.size, TNode.size, TToken.size, TTokenizer.size, TServer.size, TFile.size, TNet.size, TCache.size, TSheet.size, strsz, lsz] at *; omega)) : p := h
theorem Q1 {p : Prop} (h : p := by repeat (first | exact List.mem_cons_self | apply List.mem_cons_of_mem)) : p := h
theorem Q2 {p : Prop} (h : p := by repeat (first | exact Sel.nil | (apply Sel.cons; (repeat (first | exact Ext.here | apply Ext.there))))) : p := h
theorem Q4 {p : Prop} (h : p := by repeat (first | exact Fill.nil | (apply Fill.cons; rfl; rfl; rfl; repeat (first | (apply SetAt.here; repeat (first | exact Over.nil | apply Over.cons)) | apply SetAt.there)))) : p := h
theorem Q3 {p : Prop} (h : p := by repeat (first | (apply SetAt.here; repeat (first | exact Over.nil | apply Over.cons)) | apply SetAt.there)) : p := h
theorem Q5 {p : Prop} (h : p := by repeat (first | exact Repl.here | apply Repl.there)) : p := h
theorem Q6 {p : Prop} (h : p := by kernel_rfl) : p := h
theorem Q7 {p : Prop} (h : p := by omega) : p := h
theorem Q0 {p : Prop} (h : p := by rfl) : p := h
theorem Qm {P : Program} {n : Nat} {ops : Array Oper} {Q : Exit → Act → World → Prop} {rest : List Oper} {e : Env} {w : World} {t : Nat} {ty : TypeId} {pos : String} {aft : Array Edge} {x : Operand} {v : Value} (h : WL P n ops Q rest ((t, v) :: e) w) (ht : Nat.blt t n = true := by rfl) (hx : ev? e x = some v := by rfl) : WL P n ops Q (⟨some t, .move x, ty, pos, aft, none⟩ :: rest) e w := WL.p ht (Yl.move hx) h
theorem Qa {P : Program} {n : Nat} {ops : Array Oper} {Q : Exit → Act → World → Prop} {rest : List Oper} {e : Env} {w : World} {t : Nat} {ty : TypeId} {pos : String} {aft : Array Edge} {x : Operand} {v : Value} (h : WL P n ops Q rest ((t, v) :: e) w) (ht : Nat.blt t n = true := by rfl) (hx : ev? e x = some v := by rfl) : WL P n ops Q (⟨some t, .assign x, ty, pos, aft, none⟩ :: rest) e w := WL.p ht (Yl.assign hx) h
theorem slu53 : Tryz.prog.underlying 53 = some (.slice 9) := by kernel_rfl
theorem slt53 : SlT Tryz.prog 53 9 1 := ⟨by kernel_rfl, by kernel_rfl⟩
theorem sca9 : Sca Tryz.prog 9 := Sca.of (by kernel_rfl) (by kernel_rfl)
theorem str9 : Tryz.prog.underlying 9 = some .string := by kernel_rfl
theorem fa55_1 : FA Tryz.prog 55 1 1 := FA.of (T := 53) (k := 0) (by kernel_rfl) (by kernel_rfl)
theorem sca53 : Sca Tryz.prog 53 := Sca.of (by kernel_rfl) (by kernel_rfl)
theorem fn91 : FN Tryz.prog 91 := FN.of Tryz.func91 (by kernel_rfl) (by kernel_rfl)
theorem fa55_2 : FA Tryz.prog 55 2 2 := FA.of (T := 53) (k := 0) (by kernel_rfl) (by kernel_rfl)
theorem fa55_3 : FA Tryz.prog 55 3 3 := FA.of (T := 53) (k := 0) (by kernel_rfl) (by kernel_rfl)
theorem fa55_4 : FA Tryz.prog 55 4 4 := FA.of (T := 9) (k := 0) (by kernel_rfl) (by kernel_rfl)
theorem fa30_0 : FA Tryz.prog 30 0 0 := FA.of (T := 9) (k := 0) (by kernel_rfl) (by kernel_rfl)
theorem fa30_1 : FA Tryz.prog 30 1 1 := FA.of (T := 9) (k := 0) (by kernel_rfl) (by kernel_rfl)
theorem fa57_1 : FA Tryz.prog 57 1 1 := FA.of (T := 30) (k := 1) (by kernel_rfl) (by kernel_rfl)
theorem agg30 : Agg Tryz.prog 30 2 := Agg.of (by kernel_rfl) (by kernel_rfl)
theorem fn12 : FN Tryz.prog 12 := FN.of Tryz.func12 (by kernel_rfl) (by kernel_rfl)
theorem fa57_2 : FA Tryz.prog 57 2 3 := FA.of (T := 9) (k := 0) (by kernel_rfl) (by kernel_rfl)
theorem fa57_3 : FA Tryz.prog 57 3 4 := FA.of (T := 9) (k := 0) (by kernel_rfl) (by kernel_rfl)
theorem fa58_2 : FA Tryz.prog 58 2 2 := FA.of (T := 9) (k := 0) (by kernel_rfl) (by kernel_rfl)
theorem fa58_5 : FA Tryz.prog 58 5 5 := FA.of (T := 9) (k := 0) (by kernel_rfl) (by kernel_rfl)
theorem elt53 : ElT Tryz.prog 53 9 ([] : Str) 16 := ElT.of (zv := .string ⟨#[]⟩) (by kernel_rfl) (by kernel_rfl) rfl (fun w => own_flat (Nat.zero_le _))
theorem szf9 : (Tryz.prog.info? 9).map (·.size) = some 1 := by kernel_rfl
theorem zt63 : ZT Tryz.prog 63 [.bool false, .slice none 0 0, .slice none 0 0, .slice none 0 0, .string ⟨#[]⟩] := ZT.of (z := .agg #[.bool false, .slice none 0 0, .slice none 0 0, .slice none 0 0, .string ⟨#[]⟩]) (by kernel_rfl) rfl
theorem fa55_0 : FA Tryz.prog 55 0 0 := FA.of (T := 4) (k := 0) (by kernel_rfl) (by kernel_rfl)
theorem sca4 : Sca Tryz.prog 4 := Sca.of (by kernel_rfl) (by kernel_rfl)
theorem fa63_0 : FA Tryz.prog 63 0 0 := FA.of (T := 4) (k := 0) (by kernel_rfl) (by kernel_rfl)
theorem szf4 : (Tryz.prog.info? 4).map (·.size) = some 1 := by kernel_rfl
theorem fn96 : FN Tryz.prog 96 := FN.of Tryz.func96 (by kernel_rfl) (by kernel_rfl)
theorem fa63_1 : FA Tryz.prog 63 1 1 := FA.of (T := 53) (k := 0) (by kernel_rfl) (by kernel_rfl)
theorem szf53 : (Tryz.prog.info? 53).map (·.size) = some 1 := by kernel_rfl
theorem fa63_2 : FA Tryz.prog 63 2 2 := FA.of (T := 53) (k := 0) (by kernel_rfl) (by kernel_rfl)
theorem fa63_3 : FA Tryz.prog 63 3 3 := FA.of (T := 53) (k := 0) (by kernel_rfl) (by kernel_rfl)
theorem fa63_4 : FA Tryz.prog 63 4 4 := FA.of (T := 9) (k := 0) (by kernel_rfl) (by kernel_rfl)
theorem agg63 : Agg Tryz.prog 63 5 := Agg.of (by kernel_rfl) (by kernel_rfl)
theorem szf63 : (Tryz.prog.info? 63).map (·.size) = some 5 := by kernel_rfl
theorem zt45 : ZT Tryz.prog 45 [.string ⟨#[]⟩, .string ⟨#[]⟩] := ZT.of (z := .agg #[.string ⟨#[]⟩, .string ⟨#[]⟩]) (by kernel_rfl) rfl
theorem fa45_0 : FA Tryz.prog 45 0 0 := FA.of (T := 9) (k := 0) (by kernel_rfl) (by kernel_rfl)
theorem fa45_1 : FA Tryz.prog 45 1 1 := FA.of (T := 9) (k := 0) (by kernel_rfl) (by kernel_rfl)
theorem agg45 : Agg Tryz.prog 45 2 := Agg.of (by kernel_rfl) (by kernel_rfl)
theorem szf45 : (Tryz.prog.info? 45).map (·.size) = some 2 := by kernel_rfl
theorem zt66 : ZT Tryz.prog 66 [.int .i64 0, .string ⟨#[]⟩, .string ⟨#[]⟩, .string ⟨#[]⟩, .string ⟨#[]⟩] := ZT.of (z := .agg #[.int .i64 0, .string ⟨#[]⟩, .string ⟨#[]⟩, .string ⟨#[]⟩, .string ⟨#[]⟩]) (by kernel_rfl) rfl
theorem fa57_0 : FA Tryz.prog 57 0 0 := FA.of (T := 3) (k := 0) (by kernel_rfl) (by kernel_rfl)
theorem sca3 : Sca Tryz.prog 3 := Sca.of (by kernel_rfl) (by kernel_rfl)
theorem fa66_0 : FA Tryz.prog 66 0 0 := FA.of (T := 3) (k := 0) (by kernel_rfl) (by kernel_rfl)
theorem szf3 : (Tryz.prog.info? 3).map (·.size) = some 1 := by kernel_rfl
theorem fn15 : FN Tryz.prog 15 := FN.of Tryz.func15 (by kernel_rfl) (by kernel_rfl)
theorem fa66_1 : FA Tryz.prog 66 1 1 := FA.of (T := 45) (k := 1) (by kernel_rfl) (by kernel_rfl)
theorem fa66_2 : FA Tryz.prog 66 2 3 := FA.of (T := 9) (k := 0) (by kernel_rfl) (by kernel_rfl)
theorem fa66_3 : FA Tryz.prog 66 3 4 := FA.of (T := 9) (k := 0) (by kernel_rfl) (by kernel_rfl)
theorem agg66 : Agg Tryz.prog 66 5 := Agg.of (by kernel_rfl) (by kernel_rfl)
theorem szf66 : (Tryz.prog.info? 66).map (·.size) = some 5 := by kernel_rfl
theorem zt41 : ZT Tryz.prog 41 [.int .i64 0, .int .i64 0, .string ⟨#[]⟩, .int .i64 0, .bool false, .string ⟨#[]⟩] := ZT.of (z := .agg #[.int .i64 0, .int .i64 0, .string ⟨#[]⟩, .int .i64 0, .bool false, .string ⟨#[]⟩]) (by kernel_rfl) rfl
theorem fa58_0 : FA Tryz.prog 58 0 0 := FA.of (T := 3) (k := 0) (by kernel_rfl) (by kernel_rfl)
theorem fa41_0 : FA Tryz.prog 41 0 0 := FA.of (T := 3) (k := 0) (by kernel_rfl) (by kernel_rfl)
theorem fa58_1 : FA Tryz.prog 58 1 1 := FA.of (T := 3) (k := 0) (by kernel_rfl) (by kernel_rfl)
theorem fa41_1 : FA Tryz.prog 41 1 1 := FA.of (T := 3) (k := 0) (by kernel_rfl) (by kernel_rfl)
theorem fa41_2 : FA Tryz.prog 41 2 2 := FA.of (T := 9) (k := 0) (by kernel_rfl) (by kernel_rfl)
theorem fa58_3 : FA Tryz.prog 58 3 3 := FA.of (T := 3) (k := 0) (by kernel_rfl) (by kernel_rfl)
theorem fa41_3 : FA Tryz.prog 41 3 3 := FA.of (T := 3) (k := 0) (by kernel_rfl) (by kernel_rfl)
theorem fa58_4 : FA Tryz.prog 58 4 4 := FA.of (T := 4) (k := 0) (by kernel_rfl) (by kernel_rfl)
theorem fa41_4 : FA Tryz.prog 41 4 4 := FA.of (T := 4) (k := 0) (by kernel_rfl) (by kernel_rfl)
theorem fa41_5 : FA Tryz.prog 41 5 5 := FA.of (T := 9) (k := 0) (by kernel_rfl) (by kernel_rfl)
theorem agg41 : Agg Tryz.prog 41 6 := Agg.of (by kernel_rfl) (by kernel_rfl)
theorem szf41 : (Tryz.prog.info? 41).map (·.size) = some 6 := by kernel_rfl
theorem mixed : Tryz.prog.follows .mixedOrders = true := by kernel_rfl
theorem bool4 : Tryz.prog.underlying 4 = some .bool := by kernel_rfl
theorem fn51 : FN Tryz.prog 51 := FN.of Tryz.func51 (by kernel_rfl) (by kernel_rfl)
theorem fn87 : FN Tryz.prog 87 := FN.of Tryz.func87 (by kernel_rfl) (by kernel_rfl)
theorem fn106 : FN Tryz.prog 106 := FN.of Tryz.func106 (by kernel_rfl) (by kernel_rfl)
theorem fn64 : FN Tryz.prog 64 := FN.of Tryz.func64 (by kernel_rfl) (by kernel_rfl)
theorem fn190 : FN Tryz.prog 190 := FN.of Tryz.func190 (by kernel_rfl) (by kernel_rfl)
theorem fn191 : FN Tryz.prog 191 := FN.of Tryz.func191 (by kernel_rfl) (by kernel_rfl)
theorem fn158 : FN Tryz.prog 158 := FN.of Tryz.func158 (by kernel_rfl) (by kernel_rfl)
theorem fn159 : FN Tryz.prog 159 := FN.of Tryz.func159 (by kernel_rfl) (by kernel_rfl)
theorem sll53 : SlLit Tryz.prog 53 9 1 [.string ⟨#[]⟩] := SlLit.of (zv := .string ⟨#[]⟩) (by kernel_rfl) (by kernel_rfl) (by kernel_rfl) rfl
theorem fn232 : FN Tryz.prog 232 := FN.of Tryz.func232 (by kernel_rfl) (by kernel_rfl)
theorem fn216 : FN Tryz.prog 216 := FN.of Tryz.func216 (by kernel_rfl) (by kernel_rfl)
theorem fn217 : FN Tryz.prog 217 := FN.of Tryz.func217 (by kernel_rfl) (by kernel_rfl)
theorem bt63 : BT Tryz.prog 63 [.bool false, .slice none 0 0, .slice none 0 0, .slice none 0 0, .string ⟨#[]⟩] [(0, 1), (1, 1), (2, 1), (3, 1), (4, 1)] := BT.of (z := .agg #[.bool false, .slice none 0 0, .slice none 0 0, .slice none 0 0, .string ⟨#[]⟩]) (by kernel_rfl) (by kernel_rfl) rfl (fun w => by kernel_rfl)
theorem fn192 : FN Tryz.prog 192 := FN.of Tryz.func192 (by kernel_rfl) (by kernel_rfl)
theorem fn193 : FN Tryz.prog 193 := FN.of Tryz.func193 (by kernel_rfl) (by kernel_rfl)
theorem fn160 : FN Tryz.prog 160 := FN.of Tryz.func160 (by kernel_rfl) (by kernel_rfl)
theorem u8t5 : Tryz.prog.underlying 5 = some (.int .u8) := by kernel_rfl
theorem sll211 : SlLit Tryz.prog 211 5 1 [.int .u8 0] := SlLit.of (zv := .int .u8 0) (by kernel_rfl) (by kernel_rfl) (by kernel_rfl) rfl
theorem slu211 : Tryz.prog.underlying 211 = some (.slice 5) := by kernel_rfl
theorem slu74 : Tryz.prog.underlying 74 = some (.slice 3) := by kernel_rfl
theorem slt74 : SlT Tryz.prog 74 3 1 := ⟨by kernel_rfl, by kernel_rfl⟩
theorem fn218 : FN Tryz.prog 218 := FN.of Tryz.func218 (by kernel_rfl) (by kernel_rfl)
theorem sll74 : SlLit Tryz.prog 74 3 1 [.int .i64 0] := SlLit.of (zv := .int .i64 0) (by kernel_rfl) (by kernel_rfl) (by kernel_rfl) rfl
theorem slt211 : SlT Tryz.prog 211 5 1 := ⟨by kernel_rfl, by kernel_rfl⟩
theorem sca5 : Sca Tryz.prog 5 := Sca.of (by kernel_rfl) (by kernel_rfl)
theorem i64t3 : Tryz.prog.underlying 3 = some (.int .i64) := by kernel_rfl
theorem elt74 : ElT Tryz.prog 74 3 (0 : Int) 8 := ElT.of (zv := .int .i64 0) (by kernel_rfl) (by kernel_rfl) rfl (fun w => own_flat (⟨by decide, by decide⟩))
theorem fn195 : FN Tryz.prog 195 := FN.of Tryz.func195 (by kernel_rfl) (by kernel_rfl)
theorem fn194 : FN Tryz.prog 194 := FN.of Tryz.func194 (by kernel_rfl) (by kernel_rfl)
theorem fn161 : FN Tryz.prog 161 := FN.of Tryz.func161 (by kernel_rfl) (by kernel_rfl)
theorem fn107 : FN Tryz.prog 107 := FN.of Tryz.func107 (by kernel_rfl) (by kernel_rfl)
theorem fn92 : FN Tryz.prog 92 := FN.of Tryz.func92 (by kernel_rfl) (by kernel_rfl)
theorem fn93 : FN Tryz.prog 93 := FN.of Tryz.func93 (by kernel_rfl) (by kernel_rfl)
theorem fn94 : FN Tryz.prog 94 := FN.of Tryz.func94 (by kernel_rfl) (by kernel_rfl)
theorem fn95 : FN Tryz.prog 95 := FN.of Tryz.func95 (by kernel_rfl) (by kernel_rfl)
theorem fn26 : FN Tryz.prog 26 := FN.of Tryz.func26 (by kernel_rfl) (by kernel_rfl)
theorem fn90 : FN Tryz.prog 90 := FN.of Tryz.func90 (by kernel_rfl) (by kernel_rfl)
theorem fn115 : FN Tryz.prog 115 := FN.of Tryz.func115 (by kernel_rfl) (by kernel_rfl)
theorem fn72 : FN Tryz.prog 72 := FN.of Tryz.func72 (by kernel_rfl) (by kernel_rfl)
theorem fn196 : FN Tryz.prog 196 := FN.of Tryz.func196 (by kernel_rfl) (by kernel_rfl)
theorem fn219 : FN Tryz.prog 219 := FN.of Tryz.func219 (by kernel_rfl) (by kernel_rfl)
theorem fn197 : FN Tryz.prog 197 := FN.of Tryz.func197 (by kernel_rfl) (by kernel_rfl)
theorem fn162 : FN Tryz.prog 162 := FN.of Tryz.func162 (by kernel_rfl) (by kernel_rfl)
theorem fn163 : FN Tryz.prog 163 := FN.of Tryz.func163 (by kernel_rfl) (by kernel_rfl)
theorem fn275 : FN Tryz.prog 275 := FN.of Tryz.func275 (by kernel_rfl) (by kernel_rfl)
theorem fn255 : FN Tryz.prog 255 := FN.of Tryz.func255 (by kernel_rfl) (by kernel_rfl)
theorem fn256 : FN Tryz.prog 256 := FN.of Tryz.func256 (by kernel_rfl) (by kernel_rfl)
theorem fn237 : FN Tryz.prog 237 := FN.of Tryz.func237 (by kernel_rfl) (by kernel_rfl)
theorem fn222 : FN Tryz.prog 222 := FN.of Tryz.func222 (by kernel_rfl) (by kernel_rfl)
theorem fn223 : FN Tryz.prog 223 := FN.of Tryz.func223 (by kernel_rfl) (by kernel_rfl)
theorem fn198 : FN Tryz.prog 198 := FN.of Tryz.func198 (by kernel_rfl) (by kernel_rfl)
theorem arr239 : Tryz.prog.underlying 239 = some (.array 3 53) := by kernel_rfl
theorem zt239 : ZT Tryz.prog 239 [.slice none 0 0, .slice none 0 0, .slice none 0 0] := ZT.of (z := .agg #[.slice none 0 0, .slice none 0 0, .slice none 0 0]) (by kernel_rfl) rfl
theorem szf239 : (Tryz.prog.info? 239).map (·.size) = some 3 := by kernel_rfl
theorem fn199 : FN Tryz.prog 199 := FN.of Tryz.func199 (by kernel_rfl) (by kernel_rfl)
theorem fn200 : FN Tryz.prog 200 := FN.of Tryz.func200 (by kernel_rfl) (by kernel_rfl)
theorem fn201 : FN Tryz.prog 201 := FN.of Tryz.func201 (by kernel_rfl) (by kernel_rfl)
theorem fn164 : FN Tryz.prog 164 := FN.of Tryz.func164 (by kernel_rfl) (by kernel_rfl)
theorem fn173 : FN Tryz.prog 173 := FN.of Tryz.func173 (by kernel_rfl) (by kernel_rfl)
theorem fn224 : FN Tryz.prog 224 := FN.of Tryz.func224 (by kernel_rfl) (by kernel_rfl)
theorem fn203 : FN Tryz.prog 203 := FN.of Tryz.func203 (by kernel_rfl) (by kernel_rfl)
theorem fn202 : FN Tryz.prog 202 := FN.of Tryz.func202 (by kernel_rfl) (by kernel_rfl)
theorem fn165 : FN Tryz.prog 165 := FN.of Tryz.func165 (by kernel_rfl) (by kernel_rfl)
theorem fn116 : FN Tryz.prog 116 := FN.of Tryz.func116 (by kernel_rfl) (by kernel_rfl)
theorem fn97 : FN Tryz.prog 97 := FN.of Tryz.func97 (by kernel_rfl) (by kernel_rfl)
theorem fn98 : FN Tryz.prog 98 := FN.of Tryz.func98 (by kernel_rfl) (by kernel_rfl)
theorem fn99 : FN Tryz.prog 99 := FN.of Tryz.func99 (by kernel_rfl) (by kernel_rfl)
theorem fn100 : FN Tryz.prog 100 := FN.of Tryz.func100 (by kernel_rfl) (by kernel_rfl)
theorem fn30 : FN Tryz.prog 30 := FN.of Tryz.func30 (by kernel_rfl) (by kernel_rfl)
theorem agg55 : Agg Tryz.prog 55 5 := Agg.of (by kernel_rfl) (by kernel_rfl)
theorem fn23 : FN Tryz.prog 23 := FN.of Tryz.func23 (by kernel_rfl) (by kernel_rfl)
theorem agg57 : Agg Tryz.prog 57 5 := Agg.of (by kernel_rfl) (by kernel_rfl)
theorem fn24 : FN Tryz.prog 24 := FN.of Tryz.func24 (by kernel_rfl) (by kernel_rfl)
theorem agg58 : Agg Tryz.prog 58 6 := Agg.of (by kernel_rfl) (by kernel_rfl)
theorem fn25 : FN Tryz.prog 25 := FN.of Tryz.func25 (by kernel_rfl) (by kernel_rfl)
theorem fn27 : FN Tryz.prog 27 := FN.of Tryz.func27 (by kernel_rfl) (by kernel_rfl)
theorem fn28 : FN Tryz.prog 28 := FN.of Tryz.func28 (by kernel_rfl) (by kernel_rfl)
theorem fn29 : FN Tryz.prog 29 := FN.of Tryz.func29 (by kernel_rfl) (by kernel_rfl)
theorem fn32 : FN Tryz.prog 32 := FN.of Tryz.func32 (by kernel_rfl) (by kernel_rfl)
theorem fn33 : FN Tryz.prog 33 := FN.of Tryz.func33 (by kernel_rfl) (by kernel_rfl)
theorem fn31 : FN Tryz.prog 31 := FN.of Tryz.func31 (by kernel_rfl) (by kernel_rfl)

end Go.Sw
