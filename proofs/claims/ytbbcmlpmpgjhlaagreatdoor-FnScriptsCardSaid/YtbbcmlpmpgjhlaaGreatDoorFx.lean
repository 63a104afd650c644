/- Facts on the types and functions of this translation, each closed. No conditions. -/
import Derived.Test.YtbbcmlpmpgjhlaaGreatDoorRows
import Derived.Test.YtbbcmlpmpgjhlaaGreatDoorLibW
import Derived.Test.YtbbcmlpmpgjhlaaGreatDoorLibL
import Derived.Test.YtbbcmlpmpgjhlaaGreatDoorSh
import Derived.Test.YtbbcmlpmpgjhlaaGreatDoorSc
import Derived.WalkSpells
namespace Go.Sw
open Go Go.RowKit Go.Proofs

theorem Q10 {p : Prop} (h : p := by first | assumption | omega | (simp only [lsz] at *; omega) | (simp only [lsz, strsz, TPolicy.size, TCache.size, TAddr.size, TRequest.size, TEntry.size, TResponse.size, TLine.size] at *; omega) | (simp only [lsz_map, TPage.size, TBuilder.size, TNode.size, TToken.size, TTokenizer.size, TServer.size, TFile.size, TNet.size, TCache.size, TSheet.size, strsz] at *; omega) | (simp only [lsz_map, TPage.size, TBuilder.size, TNode.size, TToken.size, TTokenizer.size, TServer.size, TFile.size, TNet.size, TCache.size, TSheet.size, strsz, lsz] at *; omega)) : p := h
theorem Q1 {p : Prop} (h : p := by repeat (first | exact List.mem_cons_self | apply List.mem_cons_of_mem)) : p := h
theorem Q2 {p : Prop} (h : p := by repeat (first | exact Sel.nil | (apply Sel.cons; (repeat (first | exact Ext.here | apply Ext.there))))) : p := h
theorem Q4 {p : Prop} (h : p := by repeat (first | exact Fill.nil | (apply Fill.cons; rfl; rfl; rfl; repeat (first | (apply SetAt.here; repeat (first | exact Over.nil | apply Over.cons)) | apply SetAt.there)))) : p := h
theorem Q3 {p : Prop} (h : p := by repeat (first | (apply SetAt.here; repeat (first | exact Over.nil | apply Over.cons)) | apply SetAt.there)) : p := h
theorem Q5 {p : Prop} (h : p := by repeat (first | exact Repl.here | apply Repl.there)) : p := h
theorem Q6 {p : Prop} (h : p := by kernel_rfl) : p := h
theorem Q7 {p : Prop} (h : p := by omega) : p := h
theorem Q0 {p : Prop} (h : p := by rfl) : p := h
theorem Qm {P : Program} {n : Nat} {ops : Array Oper} {Q : Exit → Act → World → Prop} {rest : List Oper} {e : Env} {w : World} {t : Nat} {ty : TypeId} {pos : String} {aft : Array Edge} {x : Operand} {v : Value} (h : WL P n ops Q rest ((t, v) :: e) w) (ht : Nat.blt t n = true := by rfl) (hx : ev? e x = some v := by rfl) : WL P n ops Q (⟨some t, .move x, ty, pos, aft, none⟩ :: rest) e w := WL.p ht (Yl.move hx) h
theorem Qa {P : Program} {n : Nat} {ops : Array Oper} {Q : Exit → Act → World → Prop} {rest : List Oper} {e : Env} {w : World} {t : Nat} {ty : TypeId} {pos : String} {aft : Array Edge} {x : Operand} {v : Value} (h : WL P n ops Q rest ((t, v) :: e) w) (ht : Nat.blt t n = true := by rfl) (hx : ev? e x = some v := by rfl) : WL P n ops Q (⟨some t, .assign x, ty, pos, aft, none⟩ :: rest) e w := WL.p ht (Yl.assign hx) h
theorem slu22 : Tryz.prog.underlying 22 = some (.slice 5) := by kernel_rfl
theorem slt22 : SlT Tryz.prog 22 5 1 := ⟨by kernel_rfl, by kernel_rfl⟩
theorem sca5 : Sca Tryz.prog 5 := Sca.of (by kernel_rfl) (by kernel_rfl)
theorem i64t3 : Tryz.prog.underlying 3 = some (.int .i64) := by kernel_rfl
theorem bt52 : BT Tryz.prog 52 [.slice none 0 0, .int .i64 0, .int .i64 0] [(0, 1), (1, 1), (2, 1)] := BT.of (z := .agg #[.slice none 0 0, .int .i64 0, .int .i64 0]) (by kernel_rfl) (by kernel_rfl) rfl (fun w => by kernel_rfl)
theorem fa52_2 : FA Tryz.prog 52 2 2 := FA.of (T := 3) (k := 0) (by kernel_rfl) (by kernel_rfl)
theorem sca3 : Sca Tryz.prog 3 := Sca.of (by kernel_rfl) (by kernel_rfl)
theorem szf3 : (Tryz.prog.info? 3).map (·.size) = some 1 := by kernel_rfl
theorem mixed : Tryz.prog.follows .mixedOrders = true := by kernel_rfl
theorem fa52_1 : FA Tryz.prog 52 1 1 := FA.of (T := 3) (k := 0) (by kernel_rfl) (by kernel_rfl)
theorem fa52_0 : FA Tryz.prog 52 0 0 := FA.of (T := 22) (k := 0) (by kernel_rfl) (by kernel_rfl)
theorem sca22 : Sca Tryz.prog 22 := Sca.of (by kernel_rfl) (by kernel_rfl)
theorem fn42 : FN Tryz.prog 42 := FN.of Tryz.func42 (by kernel_rfl) (by kernel_rfl)
theorem fn30 : FN Tryz.prog 30 := FN.of Tryz.func30 (by kernel_rfl) (by kernel_rfl)
theorem slu36 : Tryz.prog.underlying 36 = some (.slice 9) := by kernel_rfl
theorem slt36 : SlT Tryz.prog 36 9 1 := ⟨by kernel_rfl, by kernel_rfl⟩
theorem sca9 : Sca Tryz.prog 9 := Sca.of (by kernel_rfl) (by kernel_rfl)
theorem sll36 : SlLit Tryz.prog 36 9 1 [.string ⟨#[]⟩] := SlLit.of (zv := .string ⟨#[]⟩) (by kernel_rfl) (by kernel_rfl) (by kernel_rfl) rfl
theorem fn17 : FN Tryz.prog 17 := FN.of Tryz.func17 (by kernel_rfl) (by kernel_rfl)
theorem fn15 : FN Tryz.prog 15 := FN.of Tryz.func15 (by kernel_rfl) (by kernel_rfl)
theorem fn16 : FN Tryz.prog 16 := FN.of Tryz.func16 (by kernel_rfl) (by kernel_rfl)
theorem fn18 : FN Tryz.prog 18 := FN.of Tryz.func18 (by kernel_rfl) (by kernel_rfl)
theorem fn35 : FN Tryz.prog 35 := FN.of Tryz.func35 (by kernel_rfl) (by kernel_rfl)
theorem str9 : Tryz.prog.underlying 9 = some .string := by kernel_rfl
theorem zt40 : ZT Tryz.prog 40 [.int .i64 0, .string ⟨#[]⟩] := ZT.of (z := .agg #[.int .i64 0, .string ⟨#[]⟩]) (by kernel_rfl) rfl
theorem fn32 : FN Tryz.prog 32 := FN.of Tryz.func32 (by kernel_rfl) (by kernel_rfl)
theorem fn23 : FN Tryz.prog 23 := FN.of Tryz.func23 (by kernel_rfl) (by kernel_rfl)
theorem bt40 : BT Tryz.prog 40 [.int .i64 0, .string ⟨#[]⟩] [(0, 1), (1, 1)] := BT.of (z := .agg #[.int .i64 0, .string ⟨#[]⟩]) (by kernel_rfl) (by kernel_rfl) rfl (fun w => by kernel_rfl)
theorem szf40 : (Tryz.prog.info? 40).map (·.size) = some 2 := by kernel_rfl
theorem agg40 : Agg Tryz.prog 40 2 := Agg.of (by kernel_rfl) (by kernel_rfl)
theorem fn33 : FN Tryz.prog 33 := FN.of Tryz.func33 (by kernel_rfl) (by kernel_rfl)
theorem sll25 : SlLit Tryz.prog 25 40 2 [.int .i64 0, .string ⟨#[]⟩] := SlLit.of (zv := .agg #[.int .i64 0, .string ⟨#[]⟩]) (by kernel_rfl) (by kernel_rfl) (by kernel_rfl) rfl
theorem fn19 : FN Tryz.prog 19 := FN.of Tryz.func19 (by kernel_rfl) (by kernel_rfl)
theorem fn20 : FN Tryz.prog 20 := FN.of Tryz.func20 (by kernel_rfl) (by kernel_rfl)
theorem slu25 : Tryz.prog.underlying 25 = some (.slice 40) := by kernel_rfl
theorem elt25 : ElT Tryz.prog 25 40 (⟨0, []⟩ : TLine) 24 := ElT.of (zv := .agg #[.int .i64 0, .string ⟨#[]⟩]) (by kernel_rfl) (by kernel_rfl) rfl (fun w => own_flat (TLine.zok w))
theorem elt36 : ElT Tryz.prog 36 9 ([] : Str) 16 := ElT.of (zv := .string ⟨#[]⟩) (by kernel_rfl) (by kernel_rfl) rfl (fun w => own_flat (Nat.zero_le _))
theorem fn26 : FN Tryz.prog 26 := FN.of Tryz.func26 (by kernel_rfl) (by kernel_rfl)
theorem fn27 : FN Tryz.prog 27 := FN.of Tryz.func27 (by kernel_rfl) (by kernel_rfl)
theorem fa40_1 : FA Tryz.prog 40 1 1 := FA.of (T := 9) (k := 0) (by kernel_rfl) (by kernel_rfl)
theorem fn34 : FN Tryz.prog 34 := FN.of Tryz.func34 (by kernel_rfl) (by kernel_rfl)
theorem fn21 : FN Tryz.prog 21 := FN.of Tryz.func21 (by kernel_rfl) (by kernel_rfl)
theorem fn22 : FN Tryz.prog 22 := FN.of Tryz.func22 (by kernel_rfl) (by kernel_rfl)
theorem slt25 : SlT Tryz.prog 25 40 2 := ⟨by kernel_rfl, by kernel_rfl⟩
theorem fa40_0 : FA Tryz.prog 40 0 0 := FA.of (T := 3) (k := 0) (by kernel_rfl) (by kernel_rfl)
theorem fn24 : FN Tryz.prog 24 := FN.of Tryz.func24 (by kernel_rfl) (by kernel_rfl)
theorem slu68 : Tryz.prog.underlying 68 = some (.slice 3) := by kernel_rfl
theorem slt68 : SlT Tryz.prog 68 3 1 := ⟨by kernel_rfl, by kernel_rfl⟩
theorem fn7 : FN Tryz.prog 7 := FN.of Tryz.func7 (by kernel_rfl) (by kernel_rfl)
theorem sll68 : SlLit Tryz.prog 68 3 1 [.int .i64 0] := SlLit.of (zv := .int .i64 0) (by kernel_rfl) (by kernel_rfl) (by kernel_rfl) rfl
theorem fn39 : FN Tryz.prog 39 := FN.of Tryz.func39 (by kernel_rfl) (by kernel_rfl)
theorem fn25 : FN Tryz.prog 25 := FN.of Tryz.func25 (by kernel_rfl) (by kernel_rfl)
theorem fn4 : FN Tryz.prog 4 := FN.of Tryz.func4 (by kernel_rfl) (by kernel_rfl)
theorem fn5 : FN Tryz.prog 5 := FN.of Tryz.func5 (by kernel_rfl) (by kernel_rfl)
theorem fn6 : FN Tryz.prog 6 := FN.of Tryz.func6 (by kernel_rfl) (by kernel_rfl)
theorem bool4 : Tryz.prog.underlying 4 = some .bool := by kernel_rfl
theorem fn8 : FN Tryz.prog 8 := FN.of Tryz.func8 (by kernel_rfl) (by kernel_rfl)
theorem fn9 : FN Tryz.prog 9 := FN.of Tryz.func9 (by kernel_rfl) (by kernel_rfl)
theorem fn10 : FN Tryz.prog 10 := FN.of Tryz.func10 (by kernel_rfl) (by kernel_rfl)
theorem fn11 : FN Tryz.prog 11 := FN.of Tryz.func11 (by kernel_rfl) (by kernel_rfl)
theorem fn12 : FN Tryz.prog 12 := FN.of Tryz.func12 (by kernel_rfl) (by kernel_rfl)
theorem fn13 : FN Tryz.prog 13 := FN.of Tryz.func13 (by kernel_rfl) (by kernel_rfl)
theorem fn14 : FN Tryz.prog 14 := FN.of Tryz.func14 (by kernel_rfl) (by kernel_rfl)

end Go.Sw
