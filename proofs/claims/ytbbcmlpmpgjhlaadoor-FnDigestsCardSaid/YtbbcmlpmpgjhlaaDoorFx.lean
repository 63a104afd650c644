/- Facts on the types and functions of this translation, each closed. No conditions. -/
import Derived.Test.YtbbcmlpmpgjhlaaDoorRows
import Derived.Test.YtbbcmlpmpgjhlaaDoorLibW
import Derived.Test.YtbbcmlpmpgjhlaaDoorLibL
import Derived.Test.YtbbcmlpmpgjhlaaDoorSh
import Derived.WalkSpells
namespace Go.Sw
open Go Go.RowKit Go.Proofs

theorem Q10 {p : Prop} (h : p := by first | assumption | omega | (simp only [lsz] at *; omega) | (simp only [lsz, strsz, TPolicy.size, TCache.size, TAddr.size, TRequest.size, TEntry.size, TResponse.size, TLine.size] at *; omega) | (simp only [lsz_map, TPage.size, TBuilder.size, TNode.size, TToken.size, TTokenizer.size, TServer.size, TFile.size, TNet.size, TCache.size, TSheet.size, strsz] at *; omega) | (simp only [lsz_map, TPage.size, TBuilder.size, TNode.size, TToken.size, TTokenizer.size, TServer.size, TFile.size, TNet.size, TCache.size, TSheet.size, strsz, lsz] at *; omega)) : p := h
theorem Q1 {p : Prop} (h : p := by repeat (first | exact List.mem_cons_self | apply List.mem_cons_of_mem)) : p := h
theorem Q2 {p : Prop} (h : p := by repeat (first | exact Sel.nil | (apply Sel.cons; (repeat (first | exact Ext.here | apply Ext.there))))) : p := h
theorem Q4 {p : Prop} (h : p := by repeat (first | exact Fill.nil | (apply Fill.cons; rfl; rfl; rfl; repeat (first | (apply SetAt.here; repeat (first | exact Over.nil | apply Over.cons)) | apply SetAt.there)))) : p := h
theorem Q3 {p : Prop} (h : p := by repeat (first | (apply SetAt.here; repeat (first | exact Over.nil | apply Over.cons)) | apply SetAt.there)) : p := h
theorem Q5 {p : Prop} (h : p := by repeat (first | exact Repl.here | apply Repl.there)) : p := h
theorem Q6 {p : Prop} (h : p := by kernel_rfl) : p := h
theorem Q7 {p : Prop} (h : p := by omega) : p := h
theorem Q0 {p : Prop} (h : p := by rfl) : p := h
theorem Qm {P : Program} {n : Nat} {ops : Array Oper} {Q : Exit → Act → World → Prop} {rest : List Oper} {e : Env} {w : World} {t : Nat} {ty : TypeId} {pos : String} {aft : Array Edge} {x : Operand} {v : Value} (h : WL P n ops Q rest ((t, v) :: e) w) (ht : Nat.blt t n = true := by rfl) (hx : ev? e x = some v := by rfl) : WL P n ops Q (⟨some t, .move x, ty, pos, aft, none⟩ :: rest) e w := WL.p ht (Yl.move hx) h
theorem Qa {P : Program} {n : Nat} {ops : Array Oper} {Q : Exit → Act → World → Prop} {rest : List Oper} {e : Env} {w : World} {t : Nat} {ty : TypeId} {pos : String} {aft : Array Edge} {x : Operand} {v : Value} (h : WL P n ops Q rest ((t, v) :: e) w) (ht : Nat.blt t n = true := by rfl) (hx : ev? e x = some v := by rfl) : WL P n ops Q (⟨some t, .assign x, ty, pos, aft, none⟩ :: rest) e w := WL.p ht (Yl.assign hx) h
theorem slu22 : Tryd.prog.underlying 22 = some (.slice 5) := by kernel_rfl
theorem u8t5 : Tryd.prog.underlying 5 = some (.int .u8) := by kernel_rfl
theorem sll22 : SlLit Tryd.prog 22 5 1 [.int .u8 0] := SlLit.of (zv := .int .u8 0) (by kernel_rfl) (by kernel_rfl) (by kernel_rfl) rfl
theorem str9 : Tryd.prog.underlying 9 = some .string := by kernel_rfl
theorem fn76 : FN Tryd.prog 76 := FN.of Tryd.func76 (by kernel_rfl) (by kernel_rfl)
theorem slu96 : Tryd.prog.underlying 96 = some (.slice 3) := by kernel_rfl
theorem slt96 : SlT Tryd.prog 96 3 1 := ⟨by kernel_rfl, by kernel_rfl⟩
theorem sca3 : Sca Tryd.prog 3 := Sca.of (by kernel_rfl) (by kernel_rfl)
theorem fn130 : FN Tryd.prog 130 := FN.of Tryd.func130 (by kernel_rfl) (by kernel_rfl)
theorem sll96 : SlLit Tryd.prog 96 3 1 [.int .i64 0] := SlLit.of (zv := .int .i64 0) (by kernel_rfl) (by kernel_rfl) (by kernel_rfl) rfl
theorem slt22 : SlT Tryd.prog 22 5 1 := ⟨by kernel_rfl, by kernel_rfl⟩
theorem sca5 : Sca Tryd.prog 5 := Sca.of (by kernel_rfl) (by kernel_rfl)
theorem i64t3 : Tryd.prog.underlying 3 = some (.int .i64) := by kernel_rfl
theorem elt96 : ElT Tryd.prog 96 3 (0 : Int) 8 := ElT.of (zv := .int .i64 0) (by kernel_rfl) (by kernel_rfl) rfl (fun w => own_flat (⟨by decide, by decide⟩))
theorem fn104 : FN Tryd.prog 104 := FN.of Tryd.func104 (by kernel_rfl) (by kernel_rfl)
theorem fn103 : FN Tryd.prog 103 := FN.of Tryd.func103 (by kernel_rfl) (by kernel_rfl)
theorem bt137 : BT Tryd.prog 137 [.slice none 0 0, .int .i64 0, .int .i64 0] [(0, 1), (1, 1), (2, 1)] := BT.of (z := .agg #[.slice none 0 0, .int .i64 0, .int .i64 0]) (by kernel_rfl) (by kernel_rfl) rfl (fun w => by kernel_rfl)
theorem fa137_2 : FA Tryd.prog 137 2 2 := FA.of (T := 3) (k := 0) (by kernel_rfl) (by kernel_rfl)
theorem szf3 : (Tryd.prog.info? 3).map (·.size) = some 1 := by kernel_rfl
theorem mixed : Tryd.prog.follows .mixedOrders = true := by kernel_rfl
theorem fa137_1 : FA Tryd.prog 137 1 1 := FA.of (T := 3) (k := 0) (by kernel_rfl) (by kernel_rfl)
theorem fa137_0 : FA Tryd.prog 137 0 0 := FA.of (T := 22) (k := 0) (by kernel_rfl) (by kernel_rfl)
theorem sca22 : Sca Tryd.prog 22 := Sca.of (by kernel_rfl) (by kernel_rfl)
theorem fn127 : FN Tryd.prog 127 := FN.of Tryd.func127 (by kernel_rfl) (by kernel_rfl)
theorem fn98 : FN Tryd.prog 98 := FN.of Tryd.func98 (by kernel_rfl) (by kernel_rfl)
theorem slu24 : Tryd.prog.underlying 24 = some (.slice 9) := by kernel_rfl
theorem slt24 : SlT Tryd.prog 24 9 1 := ⟨by kernel_rfl, by kernel_rfl⟩
theorem sca9 : Sca Tryd.prog 9 := Sca.of (by kernel_rfl) (by kernel_rfl)
theorem sll24 : SlLit Tryd.prog 24 9 1 [.string ⟨#[]⟩] := SlLit.of (zv := .string ⟨#[]⟩) (by kernel_rfl) (by kernel_rfl) (by kernel_rfl) rfl
theorem fn61 : FN Tryd.prog 61 := FN.of Tryd.func61 (by kernel_rfl) (by kernel_rfl)
theorem fn60 : FN Tryd.prog 60 := FN.of Tryd.func60 (by kernel_rfl) (by kernel_rfl)
theorem fn126 : FN Tryd.prog 126 := FN.of Tryd.func126 (by kernel_rfl) (by kernel_rfl)
theorem fn59 : FN Tryd.prog 59 := FN.of Tryd.func59 (by kernel_rfl) (by kernel_rfl)
theorem fn97 : FN Tryd.prog 97 := FN.of Tryd.func97 (by kernel_rfl) (by kernel_rfl)
theorem fn42 : FN Tryd.prog 42 := FN.of Tryd.func42 (by kernel_rfl) (by kernel_rfl)
theorem fn41 : FN Tryd.prog 41 := FN.of Tryd.func41 (by kernel_rfl) (by kernel_rfl)
theorem fn73 : FN Tryd.prog 73 := FN.of Tryd.func73 (by kernel_rfl) (by kernel_rfl)
theorem fn128 : FN Tryd.prog 128 := FN.of Tryd.func128 (by kernel_rfl) (by kernel_rfl)
theorem fn100 : FN Tryd.prog 100 := FN.of Tryd.func100 (by kernel_rfl) (by kernel_rfl)
theorem fn99 : FN Tryd.prog 99 := FN.of Tryd.func99 (by kernel_rfl) (by kernel_rfl)
theorem fn112 : FN Tryd.prog 112 := FN.of Tryd.func112 (by kernel_rfl) (by kernel_rfl)
theorem fa26_0 : FA Tryd.prog 26 0 0 := FA.of (T := 4) (k := 0) (by kernel_rfl) (by kernel_rfl)
theorem sca4 : Sca Tryd.prog 4 := Sca.of (by kernel_rfl) (by kernel_rfl)
theorem fa26_1 : FA Tryd.prog 26 1 1 := FA.of (T := 24) (k := 0) (by kernel_rfl) (by kernel_rfl)
theorem sca24 : Sca Tryd.prog 24 := Sca.of (by kernel_rfl) (by kernel_rfl)
theorem fa26_2 : FA Tryd.prog 26 2 2 := FA.of (T := 24) (k := 0) (by kernel_rfl) (by kernel_rfl)
theorem fa26_3 : FA Tryd.prog 26 3 3 := FA.of (T := 24) (k := 0) (by kernel_rfl) (by kernel_rfl)
theorem fa26_4 : FA Tryd.prog 26 4 4 := FA.of (T := 9) (k := 0) (by kernel_rfl) (by kernel_rfl)
theorem fn56 : FN Tryd.prog 56 := FN.of Tryd.func56 (by kernel_rfl) (by kernel_rfl)
theorem fn57 : FN Tryd.prog 57 := FN.of Tryd.func57 (by kernel_rfl) (by kernel_rfl)
theorem agg26 : Agg Tryd.prog 26 5 := Agg.of (by kernel_rfl) (by kernel_rfl)
theorem fn12 : FN Tryd.prog 12 := FN.of Tryd.func12 (by kernel_rfl) (by kernel_rfl)
theorem fn113 : FN Tryd.prog 113 := FN.of Tryd.func113 (by kernel_rfl) (by kernel_rfl)
theorem elt24 : ElT Tryd.prog 24 9 ([] : Str) 16 := ElT.of (zv := .string ⟨#[]⟩) (by kernel_rfl) (by kernel_rfl) rfl (fun w => own_flat (Nat.zero_le _))
theorem zt26 : ZT Tryd.prog 26 [.bool false, .slice none 0 0, .slice none 0 0, .slice none 0 0, .string ⟨#[]⟩] := ZT.of (z := .agg #[.bool false, .slice none 0 0, .slice none 0 0, .slice none 0 0, .string ⟨#[]⟩]) (by kernel_rfl) rfl
theorem bt26 : BT Tryd.prog 26 [.bool false, .slice none 0 0, .slice none 0 0, .slice none 0 0, .string ⟨#[]⟩] [(0, 1), (1, 1), (2, 1), (3, 1), (4, 1)] := BT.of (z := .agg #[.bool false, .slice none 0 0, .slice none 0 0, .slice none 0 0, .string ⟨#[]⟩]) (by kernel_rfl) (by kernel_rfl) rfl (fun w => by kernel_rfl)
theorem szf26 : (Tryd.prog.info? 26).map (·.size) = some 5 := by kernel_rfl
theorem fn138 : FN Tryd.prog 138 := FN.of Tryd.func138 (by kernel_rfl) (by kernel_rfl)
theorem szf9 : (Tryd.prog.info? 9).map (·.size) = some 1 := by kernel_rfl
theorem fn149 : FN Tryd.prog 149 := FN.of Tryd.func149 (by kernel_rfl) (by kernel_rfl)
theorem fn150 : FN Tryd.prog 150 := FN.of Tryd.func150 (by kernel_rfl) (by kernel_rfl)
theorem zt45 : ZT Tryd.prog 45 [.int .i64 0, .int .i64 0, .string ⟨#[]⟩, .int .i64 0, .bool false, .string ⟨#[]⟩] := ZT.of (z := .agg #[.int .i64 0, .int .i64 0, .string ⟨#[]⟩, .int .i64 0, .bool false, .string ⟨#[]⟩]) (by kernel_rfl) rfl
theorem fn141 : FN Tryd.prog 141 := FN.of Tryd.func141 (by kernel_rfl) (by kernel_rfl)
theorem fn70 : FN Tryd.prog 70 := FN.of Tryd.func70 (by kernel_rfl) (by kernel_rfl)
theorem bt45 : BT Tryd.prog 45 [.int .i64 0, .int .i64 0, .string ⟨#[]⟩, .int .i64 0, .bool false, .string ⟨#[]⟩] [(0, 1), (1, 1), (2, 1), (3, 1), (4, 1), (5, 1)] := BT.of (z := .agg #[.int .i64 0, .int .i64 0, .string ⟨#[]⟩, .int .i64 0, .bool false, .string ⟨#[]⟩]) (by kernel_rfl) (by kernel_rfl) rfl (fun w => by kernel_rfl)
theorem szf45 : (Tryd.prog.info? 45).map (·.size) = some 6 := by kernel_rfl
theorem fn114 : FN Tryd.prog 114 := FN.of Tryd.func114 (by kernel_rfl) (by kernel_rfl)
theorem fn62 : FN Tryd.prog 62 := FN.of Tryd.func62 (by kernel_rfl) (by kernel_rfl)
theorem fa45_5 : FA Tryd.prog 45 5 5 := FA.of (T := 9) (k := 0) (by kernel_rfl) (by kernel_rfl)
theorem agg45 : Agg Tryd.prog 45 6 := Agg.of (by kernel_rfl) (by kernel_rfl)
theorem fn118 : FN Tryd.prog 118 := FN.of Tryd.func118 (by kernel_rfl) (by kernel_rfl)
theorem fa45_0 : FA Tryd.prog 45 0 0 := FA.of (T := 3) (k := 0) (by kernel_rfl) (by kernel_rfl)
theorem fa45_1 : FA Tryd.prog 45 1 1 := FA.of (T := 3) (k := 0) (by kernel_rfl) (by kernel_rfl)
theorem fa45_3 : FA Tryd.prog 45 3 3 := FA.of (T := 3) (k := 0) (by kernel_rfl) (by kernel_rfl)
theorem fa45_2 : FA Tryd.prog 45 2 2 := FA.of (T := 9) (k := 0) (by kernel_rfl) (by kernel_rfl)
theorem fn69 : FN Tryd.prog 69 := FN.of Tryd.func69 (by kernel_rfl) (by kernel_rfl)
theorem fn101 : FN Tryd.prog 101 := FN.of Tryd.func101 (by kernel_rfl) (by kernel_rfl)
theorem fn129 : FN Tryd.prog 129 := FN.of Tryd.func129 (by kernel_rfl) (by kernel_rfl)
theorem fn37 : FN Tryd.prog 37 := FN.of Tryd.func37 (by kernel_rfl) (by kernel_rfl)
theorem fn102 : FN Tryd.prog 102 := FN.of Tryd.func102 (by kernel_rfl) (by kernel_rfl)
theorem fn137 : FN Tryd.prog 137 := FN.of Tryd.func137 (by kernel_rfl) (by kernel_rfl)
theorem fn83 : FN Tryd.prog 83 := FN.of Tryd.func83 (by kernel_rfl) (by kernel_rfl)
theorem fn110 : FN Tryd.prog 110 := FN.of Tryd.func110 (by kernel_rfl) (by kernel_rfl)
theorem fn111 : FN Tryd.prog 111 := FN.of Tryd.func111 (by kernel_rfl) (by kernel_rfl)
theorem fn54 : FN Tryd.prog 54 := FN.of Tryd.func54 (by kernel_rfl) (by kernel_rfl)
theorem fn55 : FN Tryd.prog 55 := FN.of Tryd.func55 (by kernel_rfl) (by kernel_rfl)
theorem fn11 : FN Tryd.prog 11 := FN.of Tryd.func11 (by kernel_rfl) (by kernel_rfl)
theorem fn53 : FN Tryd.prog 53 := FN.of Tryd.func53 (by kernel_rfl) (by kernel_rfl)
theorem szf24 : (Tryd.prog.info? 24).map (·.size) = some 1 := by kernel_rfl
theorem fn50 : FN Tryd.prog 50 := FN.of Tryd.func50 (by kernel_rfl) (by kernel_rfl)
theorem arr77 : Tryd.prog.underlying 77 = some (.array 3 24) := by kernel_rfl
theorem zt77 : ZT Tryd.prog 77 [.slice none 0 0, .slice none 0 0, .slice none 0 0] := ZT.of (z := .agg #[.slice none 0 0, .slice none 0 0, .slice none 0 0]) (by kernel_rfl) rfl
theorem szf77 : (Tryd.prog.info? 77).map (·.size) = some 3 := by kernel_rfl
theorem fn51 : FN Tryd.prog 51 := FN.of Tryd.func51 (by kernel_rfl) (by kernel_rfl)
theorem fn10 : FN Tryd.prog 10 := FN.of Tryd.func10 (by kernel_rfl) (by kernel_rfl)
theorem fn52 : FN Tryd.prog 52 := FN.of Tryd.func52 (by kernel_rfl) (by kernel_rfl)
theorem fn9 : FN Tryd.prog 9 := FN.of Tryd.func9 (by kernel_rfl) (by kernel_rfl)
theorem fn64 : FN Tryd.prog 64 := FN.of Tryd.func64 (by kernel_rfl) (by kernel_rfl)
theorem fn15 : FN Tryd.prog 15 := FN.of Tryd.func15 (by kernel_rfl) (by kernel_rfl)
theorem fn7 : FN Tryd.prog 7 := FN.of Tryd.func7 (by kernel_rfl) (by kernel_rfl)
theorem fn36 : FN Tryd.prog 36 := FN.of Tryd.func36 (by kernel_rfl) (by kernel_rfl)
theorem fn38 : FN Tryd.prog 38 := FN.of Tryd.func38 (by kernel_rfl) (by kernel_rfl)
theorem fn39 : FN Tryd.prog 39 := FN.of Tryd.func39 (by kernel_rfl) (by kernel_rfl)
theorem fn40 : FN Tryd.prog 40 := FN.of Tryd.func40 (by kernel_rfl) (by kernel_rfl)
theorem bool4 : Tryd.prog.underlying 4 = some .bool := by kernel_rfl
theorem fn43 : FN Tryd.prog 43 := FN.of Tryd.func43 (by kernel_rfl) (by kernel_rfl)
theorem fn44 : FN Tryd.prog 44 := FN.of Tryd.func44 (by kernel_rfl) (by kernel_rfl)
theorem fn45 : FN Tryd.prog 45 := FN.of Tryd.func45 (by kernel_rfl) (by kernel_rfl)
theorem fn46 : FN Tryd.prog 46 := FN.of Tryd.func46 (by kernel_rfl) (by kernel_rfl)
theorem fn47 : FN Tryd.prog 47 := FN.of Tryd.func47 (by kernel_rfl) (by kernel_rfl)
theorem fn48 : FN Tryd.prog 48 := FN.of Tryd.func48 (by kernel_rfl) (by kernel_rfl)
theorem fv45_0 : FV Tryd.prog 45 0 0 := FV.of (T := 3) (by kernel_rfl) sca3

end Go.Sw
