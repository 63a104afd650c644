/- Facts on the types and functions of this translation, each closed. No conditions. -/
import Derived.Test.YtbbcmlpmpgjhlaaDoorRows
import Derived.Test.YtbbcmlpmpgjhlaaDoorLibW
import Derived.Test.YtbbcmlpmpgjhlaaDoorLibL
import Derived.Test.YtbbcmlpmpgjhlaaDoorSh
import Derived.WalkSpells
namespace Go.Sw
open Go Go.RowKit Go.Proofs

theorem Q10 {p : Prop} (h : p := by first | assumption | omega | (simp only [lsz] at *; omega) | (simp only [lsz, strsz, TPolicy.size, TCache.size, TAddr.size, TRequest.size, TEntry.size, TResponse.size, TLine.size] at *; omega) | (simp only [lsz_map, TPage.size, TBuilder.size, TNode.size, TToken.size, TTokenizer.size, TServer.size, TFile.size, TNet.size, TCache.size, TSheet.size, strsz] at *; omega) | (simp only [lsz_map, TPage.size, TBuilder.size, TNode.size, TToken.size, TTokenizer.size, TServer.size, TFile.size, TNet.size, TCache.size, TSheet.size, strsz, lsz] at *; omega)) : p := h
theorem Q1 {p : Prop} (h : p := by repeat (first | exact List.mem_cons_self | apply List.mem_cons_of_mem)) : p := h
theorem Q2 {p : Prop} (h : p := by repeat (first | exact Sel.nil | (apply Sel.cons; (repeat (first | exact Ext.here | apply Ext.there))))) : p := h
theorem Q4 {p : Prop} (h : p := by repeat (first | exact Fill.nil | (apply Fill.cons; rfl; rfl; rfl; repeat (first | (apply SetAt.here; repeat (first | exact Over.nil | apply Over.cons)) | apply SetAt.there)))) : p := h
theorem Q3 {p : Prop} (h : p := by repeat (first | (apply SetAt.here; repeat (first | exact Over.nil | apply Over.cons)) | apply SetAt.there)) : p := h
theorem Q5 {p : Prop} (h : p := by repeat (first | exact Repl.here | apply Repl.there)) : p := h
theorem Q6 {p : Prop} (h : p := by kernel_rfl) : p := h
theorem Q7 {p : Prop} (h : p := by omega) : p := h
theorem Q0 {p : Prop} (h : p := by rfl) : p := h
theorem Qm {P : Program} {n : Nat} {ops : Array Oper} {Q : Exit → Act → World → Prop} {rest : List Oper} {e : Env} {w : World} {t : Nat} {ty : TypeId} {pos : String} {aft : Array Edge} {x : Operand} {v : Value} (h : WL P n ops Q rest ((t, v) :: e) w) (ht : Nat.blt t n = true := by rfl) (hx : ev? e x = some v := by rfl) : WL P n ops Q (⟨some t, .move x, ty, pos, aft, none⟩ :: rest) e w := WL.p ht (Yl.move hx) h
theorem Qa {P : Program} {n : Nat} {ops : Array Oper} {Q : Exit → Act → World → Prop} {rest : List Oper} {e : Env} {w : World} {t : Nat} {ty : TypeId} {pos : String} {aft : Array Edge} {x : Operand} {v : Value} (h : WL P n ops Q rest ((t, v) :: e) w) (ht : Nat.blt t n = true := by rfl) (hx : ev? e x = some v := by rfl) : WL P n ops Q (⟨some t, .assign x, ty, pos, aft, none⟩ :: rest) e w := WL.p ht (Yl.assign hx) h
theorem slu22 : Tryd.prog.underlying 22 = some (.slice 5) := by kernel_rfl
theorem agg45 : Agg Tryd.prog 45 6 := Agg.of (by kernel_rfl) (by kernel_rfl)
theorem eqin45 (d : Nat) (x y : TResponse) (w : World) : (Op.equalIn (d + 2) 45 (.agg #[I x.status, I x.kind, S x.body, I x.age, Bo x.shares, S x.policy]) (.agg #[I y.status, I y.kind, S y.body, I y.age, Bo y.shares, S y.policy])).run Tryd.prog w = .ok (decide (x = y)) w := by
  have hf : Tryd.prog.fieldsOf 45 = #[⟨ "Status", 3, 0, false, "", "", 0⟩, ⟨ "Kind", 3, 1, false, "", "", 8⟩, ⟨ "Body", 9, 2, false, "", "", 16⟩, ⟨ "Age", 3, 3, false, "", "", 32⟩, ⟨ "Shares", 4, 4, false, "", "", 40⟩, ⟨ "Policy", 9, 5, false, "", "", 48⟩] := by kernel_rfl
  rw [run_equalIn_agg w (d + 1) 45 _ _ (by kernel_rfl) (by kernel_rfl), hf]
  simp [Op.eqFields, go_sem, TResponse.ext_iff]
  try ((repeat' split) <;> simp_all)
theorem eqt45 : EqT Tryd.prog 45 (α := TResponse) := run_eqt_of (eqin45 9998) (by kernel_rfl)
theorem slt22 : SlT Tryd.prog 22 5 1 := ⟨by kernel_rfl, by kernel_rfl⟩
theorem sca5 : Sca Tryd.prog 5 := Sca.of (by kernel_rfl) (by kernel_rfl)
theorem i64t3 : Tryd.prog.underlying 3 = some (.int .i64) := by kernel_rfl
theorem bt137 : BT Tryd.prog 137 [.slice none 0 0, .int .i64 0, .int .i64 0] [(0, 1), (1, 1), (2, 1)] := BT.of (z := .agg #[.slice none 0 0, .int .i64 0, .int .i64 0]) (by kernel_rfl) (by kernel_rfl) rfl (fun w => by kernel_rfl)
theorem fa137_2 : FA Tryd.prog 137 2 2 := FA.of (T := 3) (k := 0) (by kernel_rfl) (by kernel_rfl)
theorem sca3 : Sca Tryd.prog 3 := Sca.of (by kernel_rfl) (by kernel_rfl)
theorem szf3 : (Tryd.prog.info? 3).map (·.size) = some 1 := by kernel_rfl
theorem mixed : Tryd.prog.follows .mixedOrders = true := by kernel_rfl
theorem fa137_1 : FA Tryd.prog 137 1 1 := FA.of (T := 3) (k := 0) (by kernel_rfl) (by kernel_rfl)
theorem fa137_0 : FA Tryd.prog 137 0 0 := FA.of (T := 22) (k := 0) (by kernel_rfl) (by kernel_rfl)
theorem sca22 : Sca Tryd.prog 22 := Sca.of (by kernel_rfl) (by kernel_rfl)
theorem fn127 : FN Tryd.prog 127 := FN.of Tryd.func127 (by kernel_rfl) (by kernel_rfl)
theorem slu24 : Tryd.prog.underlying 24 = some (.slice 9) := by kernel_rfl
theorem fn98 : FN Tryd.prog 98 := FN.of Tryd.func98 (by kernel_rfl) (by kernel_rfl)
theorem slt24 : SlT Tryd.prog 24 9 1 := ⟨by kernel_rfl, by kernel_rfl⟩
theorem sca9 : Sca Tryd.prog 9 := Sca.of (by kernel_rfl) (by kernel_rfl)
theorem sll24 : SlLit Tryd.prog 24 9 1 [.string ⟨#[]⟩] := SlLit.of (zv := .string ⟨#[]⟩) (by kernel_rfl) (by kernel_rfl) (by kernel_rfl) rfl
theorem fn61 : FN Tryd.prog 61 := FN.of Tryd.func61 (by kernel_rfl) (by kernel_rfl)
theorem zt43 : ZT Tryd.prog 43 [.string ⟨#[]⟩, .string ⟨#[]⟩] := ZT.of (z := .agg #[.string ⟨#[]⟩, .string ⟨#[]⟩]) (by kernel_rfl) rfl
theorem fn139 : FN Tryd.prog 139 := FN.of Tryd.func139 (by kernel_rfl) (by kernel_rfl)
theorem fn140 : FN Tryd.prog 140 := FN.of Tryd.func140 (by kernel_rfl) (by kernel_rfl)
theorem bt43 : BT Tryd.prog 43 [.string ⟨#[]⟩, .string ⟨#[]⟩] [(0, 1), (1, 1)] := BT.of (z := .agg #[.string ⟨#[]⟩, .string ⟨#[]⟩]) (by kernel_rfl) (by kernel_rfl) rfl (fun w => by kernel_rfl)
theorem szf43 : (Tryd.prog.info? 43).map (·.size) = some 2 := by kernel_rfl
theorem agg43 : Agg Tryd.prog 43 2 := Agg.of (by kernel_rfl) (by kernel_rfl)
theorem fn117 : FN Tryd.prog 117 := FN.of Tryd.func117 (by kernel_rfl) (by kernel_rfl)
theorem fa43_0 : FA Tryd.prog 43 0 0 := FA.of (T := 9) (k := 0) (by kernel_rfl) (by kernel_rfl)
theorem szf9 : (Tryd.prog.info? 9).map (·.size) = some 1 := by kernel_rfl
theorem fa43_1 : FA Tryd.prog 43 1 1 := FA.of (T := 9) (k := 0) (by kernel_rfl) (by kernel_rfl)
theorem slu96 : Tryd.prog.underlying 96 = some (.slice 3) := by kernel_rfl
theorem slt96 : SlT Tryd.prog 96 3 1 := ⟨by kernel_rfl, by kernel_rfl⟩
theorem str9 : Tryd.prog.underlying 9 = some .string := by kernel_rfl
theorem fn76 : FN Tryd.prog 76 := FN.of Tryd.func76 (by kernel_rfl) (by kernel_rfl)
theorem fn112 : FN Tryd.prog 112 := FN.of Tryd.func112 (by kernel_rfl) (by kernel_rfl)
theorem fa26_0 : FA Tryd.prog 26 0 0 := FA.of (T := 4) (k := 0) (by kernel_rfl) (by kernel_rfl)
theorem sca4 : Sca Tryd.prog 4 := Sca.of (by kernel_rfl) (by kernel_rfl)
theorem fa26_1 : FA Tryd.prog 26 1 1 := FA.of (T := 24) (k := 0) (by kernel_rfl) (by kernel_rfl)
theorem sca24 : Sca Tryd.prog 24 := Sca.of (by kernel_rfl) (by kernel_rfl)
theorem fa26_2 : FA Tryd.prog 26 2 2 := FA.of (T := 24) (k := 0) (by kernel_rfl) (by kernel_rfl)
theorem fa26_3 : FA Tryd.prog 26 3 3 := FA.of (T := 24) (k := 0) (by kernel_rfl) (by kernel_rfl)
theorem fa26_4 : FA Tryd.prog 26 4 4 := FA.of (T := 9) (k := 0) (by kernel_rfl) (by kernel_rfl)
theorem fn56 : FN Tryd.prog 56 := FN.of Tryd.func56 (by kernel_rfl) (by kernel_rfl)
theorem fn57 : FN Tryd.prog 57 := FN.of Tryd.func57 (by kernel_rfl) (by kernel_rfl)
theorem agg26 : Agg Tryd.prog 26 5 := Agg.of (by kernel_rfl) (by kernel_rfl)
theorem fn12 : FN Tryd.prog 12 := FN.of Tryd.func12 (by kernel_rfl) (by kernel_rfl)
theorem fn113 : FN Tryd.prog 113 := FN.of Tryd.func113 (by kernel_rfl) (by kernel_rfl)
theorem fn60 : FN Tryd.prog 60 := FN.of Tryd.func60 (by kernel_rfl) (by kernel_rfl)
theorem elt24 : ElT Tryd.prog 24 9 ([] : Str) 16 := ElT.of (zv := .string ⟨#[]⟩) (by kernel_rfl) (by kernel_rfl) rfl (fun w => own_flat (Nat.zero_le _))
theorem zt26 : ZT Tryd.prog 26 [.bool false, .slice none 0 0, .slice none 0 0, .slice none 0 0, .string ⟨#[]⟩] := ZT.of (z := .agg #[.bool false, .slice none 0 0, .slice none 0 0, .slice none 0 0, .string ⟨#[]⟩]) (by kernel_rfl) rfl
theorem bt26 : BT Tryd.prog 26 [.bool false, .slice none 0 0, .slice none 0 0, .slice none 0 0, .string ⟨#[]⟩] [(0, 1), (1, 1), (2, 1), (3, 1), (4, 1)] := BT.of (z := .agg #[.bool false, .slice none 0 0, .slice none 0 0, .slice none 0 0, .string ⟨#[]⟩]) (by kernel_rfl) (by kernel_rfl) rfl (fun w => by kernel_rfl)
theorem szf26 : (Tryd.prog.info? 26).map (·.size) = some 5 := by kernel_rfl
theorem fn138 : FN Tryd.prog 138 := FN.of Tryd.func138 (by kernel_rfl) (by kernel_rfl)
theorem fn126 : FN Tryd.prog 126 := FN.of Tryd.func126 (by kernel_rfl) (by kernel_rfl)
theorem fn149 : FN Tryd.prog 149 := FN.of Tryd.func149 (by kernel_rfl) (by kernel_rfl)
theorem fn150 : FN Tryd.prog 150 := FN.of Tryd.func150 (by kernel_rfl) (by kernel_rfl)
theorem fn97 : FN Tryd.prog 97 := FN.of Tryd.func97 (by kernel_rfl) (by kernel_rfl)
theorem zt45 : ZT Tryd.prog 45 [.int .i64 0, .int .i64 0, .string ⟨#[]⟩, .int .i64 0, .bool false, .string ⟨#[]⟩] := ZT.of (z := .agg #[.int .i64 0, .int .i64 0, .string ⟨#[]⟩, .int .i64 0, .bool false, .string ⟨#[]⟩]) (by kernel_rfl) rfl
theorem fn141 : FN Tryd.prog 141 := FN.of Tryd.func141 (by kernel_rfl) (by kernel_rfl)
theorem sll96 : SlLit Tryd.prog 96 3 1 [.int .i64 0] := SlLit.of (zv := .int .i64 0) (by kernel_rfl) (by kernel_rfl) (by kernel_rfl) rfl
theorem fn70 : FN Tryd.prog 70 := FN.of Tryd.func70 (by kernel_rfl) (by kernel_rfl)
theorem bt45 : BT Tryd.prog 45 [.int .i64 0, .int .i64 0, .string ⟨#[]⟩, .int .i64 0, .bool false, .string ⟨#[]⟩] [(0, 1), (1, 1), (2, 1), (3, 1), (4, 1), (5, 1)] := BT.of (z := .agg #[.int .i64 0, .int .i64 0, .string ⟨#[]⟩, .int .i64 0, .bool false, .string ⟨#[]⟩]) (by kernel_rfl) (by kernel_rfl) rfl (fun w => by kernel_rfl)
theorem szf45 : (Tryd.prog.info? 45).map (·.size) = some 6 := by kernel_rfl
theorem fn114 : FN Tryd.prog 114 := FN.of Tryd.func114 (by kernel_rfl) (by kernel_rfl)
theorem fn62 : FN Tryd.prog 62 := FN.of Tryd.func62 (by kernel_rfl) (by kernel_rfl)
theorem fa45_5 : FA Tryd.prog 45 5 5 := FA.of (T := 9) (k := 0) (by kernel_rfl) (by kernel_rfl)
theorem fn118 : FN Tryd.prog 118 := FN.of Tryd.func118 (by kernel_rfl) (by kernel_rfl)
theorem fa45_0 : FA Tryd.prog 45 0 0 := FA.of (T := 3) (k := 0) (by kernel_rfl) (by kernel_rfl)
theorem fa45_1 : FA Tryd.prog 45 1 1 := FA.of (T := 3) (k := 0) (by kernel_rfl) (by kernel_rfl)
theorem fa45_3 : FA Tryd.prog 45 3 3 := FA.of (T := 3) (k := 0) (by kernel_rfl) (by kernel_rfl)
theorem fa45_2 : FA Tryd.prog 45 2 2 := FA.of (T := 9) (k := 0) (by kernel_rfl) (by kernel_rfl)
theorem sll56 : SlLit Tryd.prog 56 112 2 [.string ⟨#[]⟩, .slice none 0 0] := SlLit.of (zv := .agg #[.string ⟨#[]⟩, .slice none 0 0]) (by kernel_rfl) (by kernel_rfl) (by kernel_rfl) rfl
theorem slu56 : Tryd.prog.underlying 56 = some (.slice 112) := by kernel_rfl
theorem slt56 : SlT Tryd.prog 56 112 2 := ⟨by kernel_rfl, by kernel_rfl⟩
theorem fa112_0 : FA Tryd.prog 112 0 0 := FA.of (T := 9) (k := 0) (by kernel_rfl) (by kernel_rfl)
theorem fa112_1 : FA Tryd.prog 112 1 1 := FA.of (T := 110) (k := 0) (by kernel_rfl) (by kernel_rfl)
theorem sca110 : Sca Tryd.prog 110 := Sca.of (by kernel_rfl) (by kernel_rfl)
theorem sll110 : SlLit Tryd.prog 110 115 7 [.string ⟨#[]⟩, .int .i64 0, .int .i64 0, .string ⟨#[]⟩, .int .i64 0, .bool false, .string ⟨#[]⟩] := SlLit.of (zv := .agg #[.string ⟨#[]⟩, .int .i64 0, .int .i64 0, .string ⟨#[]⟩, .int .i64 0, .bool false, .string ⟨#[]⟩]) (by kernel_rfl) (by kernel_rfl) (by kernel_rfl) rfl
theorem elt110 : ElT Tryd.prog 110 115 (⟨[], ⟨0, 0, [], 0, false, []⟩⟩ : TFile) 80 := ElT.of (zv := .agg #[.string ⟨#[]⟩, .int .i64 0, .int .i64 0, .string ⟨#[]⟩, .int .i64 0, .bool false, .string ⟨#[]⟩]) (by kernel_rfl) (by kernel_rfl) rfl (fun w => own_flat (TFile.zok w))
theorem bt112 : BT Tryd.prog 112 [.string ⟨#[]⟩, .slice none 0 0] [(0, 1), (1, 1)] := BT.of (z := .agg #[.string ⟨#[]⟩, .slice none 0 0]) (by kernel_rfl) (by kernel_rfl) rfl (fun w => by kernel_rfl)
theorem elt56 : ElT Tryd.prog 56 112 (⟨[], ⟨[], none, 0⟩⟩ : PServer) 40 := ElT.of (zv := .agg #[.string ⟨#[]⟩, .slice none 0 0]) (by kernel_rfl) (by kernel_rfl) rfl (fun w => PServer.zown w)
theorem slu110 : Tryd.prog.underlying 110 = some (.slice 115) := by kernel_rfl
theorem slt110 : SlT Tryd.prog 110 115 7 := ⟨by kernel_rfl, by kernel_rfl⟩
theorem fa115_0 : FA Tryd.prog 115 0 0 := FA.of (T := 9) (k := 0) (by kernel_rfl) (by kernel_rfl)
theorem fn64 : FN Tryd.prog 64 := FN.of Tryd.func64 (by kernel_rfl) (by kernel_rfl)
theorem fn15 : FN Tryd.prog 15 := FN.of Tryd.func15 (by kernel_rfl) (by kernel_rfl)
theorem fa115_1 : FA Tryd.prog 115 1 1 := FA.of (T := 45) (k := 5) (by kernel_rfl) (by kernel_rfl)
theorem fn44 : FN Tryd.prog 44 := FN.of Tryd.func44 (by kernel_rfl) (by kernel_rfl)
theorem fn90 : FN Tryd.prog 90 := FN.of Tryd.func90 (by kernel_rfl) (by kernel_rfl)
theorem fn91 : FN Tryd.prog 91 := FN.of Tryd.func91 (by kernel_rfl) (by kernel_rfl)
theorem agg112 : Agg Tryd.prog 112 2 := Agg.of (by kernel_rfl) (by kernel_rfl)
theorem fn92 : FN Tryd.prog 92 := FN.of Tryd.func92 (by kernel_rfl) (by kernel_rfl)
theorem fn93 : FN Tryd.prog 93 := FN.of Tryd.func93 (by kernel_rfl) (by kernel_rfl)
theorem bt115 : BT Tryd.prog 115 [.string ⟨#[]⟩, .int .i64 0, .int .i64 0, .string ⟨#[]⟩, .int .i64 0, .bool false, .string ⟨#[]⟩] [(0, 1), (1, 6)] := BT.of (z := .agg #[.string ⟨#[]⟩, .int .i64 0, .int .i64 0, .string ⟨#[]⟩, .int .i64 0, .bool false, .string ⟨#[]⟩]) (by kernel_rfl) (by kernel_rfl) rfl (fun w => by kernel_rfl)
theorem szf110 : (Tryd.prog.info? 110).map (·.size) = some 1 := by kernel_rfl
theorem fn31 : FN Tryd.prog 31 := FN.of Tryd.func31 (by kernel_rfl) (by kernel_rfl)
theorem fn121 : FN Tryd.prog 121 := FN.of Tryd.func121 (by kernel_rfl) (by kernel_rfl)
theorem fn69 : FN Tryd.prog 69 := FN.of Tryd.func69 (by kernel_rfl) (by kernel_rfl)
theorem fn59 : FN Tryd.prog 59 := FN.of Tryd.func59 (by kernel_rfl) (by kernel_rfl)
theorem fn85 : FN Tryd.prog 85 := FN.of Tryd.func85 (by kernel_rfl) (by kernel_rfl)
theorem fn68 : FN Tryd.prog 68 := FN.of Tryd.func68 (by kernel_rfl) (by kernel_rfl)
theorem zt112 : ZT Tryd.prog 112 [.string ⟨#[]⟩, .slice none 0 0] := ZT.of (z := .agg #[.string ⟨#[]⟩, .slice none 0 0]) (by kernel_rfl) rfl
theorem szf112 : (Tryd.prog.info? 112).map (·.size) = some 2 := by kernel_rfl
theorem fn122 : FN Tryd.prog 122 := FN.of Tryd.func122 (by kernel_rfl) (by kernel_rfl)
theorem fn123 : FN Tryd.prog 123 := FN.of Tryd.func123 (by kernel_rfl) (by kernel_rfl)
theorem agg115 : Agg Tryd.prog 115 7 := Agg.of (by kernel_rfl) (by kernel_rfl)
theorem fn124 : FN Tryd.prog 124 := FN.of Tryd.func124 (by kernel_rfl) (by kernel_rfl)
theorem fn125 : FN Tryd.prog 125 := FN.of Tryd.func125 (by kernel_rfl) (by kernel_rfl)
theorem fn137 : FN Tryd.prog 137 := FN.of Tryd.func137 (by kernel_rfl) (by kernel_rfl)
theorem fn73 : FN Tryd.prog 73 := FN.of Tryd.func73 (by kernel_rfl) (by kernel_rfl)
theorem fn83 : FN Tryd.prog 83 := FN.of Tryd.func83 (by kernel_rfl) (by kernel_rfl)
theorem fn110 : FN Tryd.prog 110 := FN.of Tryd.func110 (by kernel_rfl) (by kernel_rfl)
theorem fn111 : FN Tryd.prog 111 := FN.of Tryd.func111 (by kernel_rfl) (by kernel_rfl)
theorem fn54 : FN Tryd.prog 54 := FN.of Tryd.func54 (by kernel_rfl) (by kernel_rfl)
theorem fn55 : FN Tryd.prog 55 := FN.of Tryd.func55 (by kernel_rfl) (by kernel_rfl)
theorem fn11 : FN Tryd.prog 11 := FN.of Tryd.func11 (by kernel_rfl) (by kernel_rfl)
theorem fn53 : FN Tryd.prog 53 := FN.of Tryd.func53 (by kernel_rfl) (by kernel_rfl)
theorem szf24 : (Tryd.prog.info? 24).map (·.size) = some 1 := by kernel_rfl
theorem fn50 : FN Tryd.prog 50 := FN.of Tryd.func50 (by kernel_rfl) (by kernel_rfl)
theorem arr77 : Tryd.prog.underlying 77 = some (.array 3 24) := by kernel_rfl
theorem zt77 : ZT Tryd.prog 77 [.slice none 0 0, .slice none 0 0, .slice none 0 0] := ZT.of (z := .agg #[.slice none 0 0, .slice none 0 0, .slice none 0 0]) (by kernel_rfl) rfl
theorem szf77 : (Tryd.prog.info? 77).map (·.size) = some 3 := by kernel_rfl
theorem fn51 : FN Tryd.prog 51 := FN.of Tryd.func51 (by kernel_rfl) (by kernel_rfl)
theorem fn10 : FN Tryd.prog 10 := FN.of Tryd.func10 (by kernel_rfl) (by kernel_rfl)
theorem fn52 : FN Tryd.prog 52 := FN.of Tryd.func52 (by kernel_rfl) (by kernel_rfl)
theorem fn9 : FN Tryd.prog 9 := FN.of Tryd.func9 (by kernel_rfl) (by kernel_rfl)
theorem zt115 : ZT Tryd.prog 115 [.string ⟨#[]⟩, .int .i64 0, .int .i64 0, .string ⟨#[]⟩, .int .i64 0, .bool false, .string ⟨#[]⟩] := ZT.of (z := .agg #[.string ⟨#[]⟩, .int .i64 0, .int .i64 0, .string ⟨#[]⟩, .int .i64 0, .bool false, .string ⟨#[]⟩]) (by kernel_rfl) rfl
theorem szf115 : (Tryd.prog.info? 115).map (·.size) = some 7 := by kernel_rfl
theorem fn88 : FN Tryd.prog 88 := FN.of Tryd.func88 (by kernel_rfl) (by kernel_rfl)
theorem fn43 : FN Tryd.prog 43 := FN.of Tryd.func43 (by kernel_rfl) (by kernel_rfl)
theorem fn86 : FN Tryd.prog 86 := FN.of Tryd.func86 (by kernel_rfl) (by kernel_rfl)
theorem fn87 : FN Tryd.prog 87 := FN.of Tryd.func87 (by kernel_rfl) (by kernel_rfl)
theorem fn89 : FN Tryd.prog 89 := FN.of Tryd.func89 (by kernel_rfl) (by kernel_rfl)
theorem eqin115 (d : Nat) (x y : TFile) (w : World) : (Op.equalIn (d + 3) 115 (.agg #[S x.path, I x.response.status, I x.response.kind, S x.response.body, I x.response.age, Bo x.response.shares, S x.response.policy]) (.agg #[S y.path, I y.response.status, I y.response.kind, S y.response.body, I y.response.age, Bo y.response.shares, S y.response.policy])).run Tryd.prog w = .ok (decide (x = y)) w := by
  have hf : Tryd.prog.fieldsOf 115 = #[⟨ "Path", 9, 0, false, "", "", 0⟩, ⟨ "Response", 45, 1, false, "", "", 16⟩] := by kernel_rfl
  rw [run_equalIn_agg w (d + 2) 115 _ _ (by kernel_rfl) (by kernel_rfl), hf]
  simp [Op.eqFields, go_sem, TFile.ext_iff, eqin45]
  try ((repeat' split) <;> simp_all)
theorem eqt115 : EqT Tryd.prog 115 (α := TFile) := run_eqt_of (eqin115 9997) (by kernel_rfl)
theorem fn96 : FN Tryd.prog 96 := FN.of Tryd.func96 (by kernel_rfl) (by kernel_rfl)
theorem fn94 : FN Tryd.prog 94 := FN.of Tryd.func94 (by kernel_rfl) (by kernel_rfl)
theorem fn95 : FN Tryd.prog 95 := FN.of Tryd.func95 (by kernel_rfl) (by kernel_rfl)
theorem fn48 : FN Tryd.prog 48 := FN.of Tryd.func48 (by kernel_rfl) (by kernel_rfl)
theorem fn7 : FN Tryd.prog 7 := FN.of Tryd.func7 (by kernel_rfl) (by kernel_rfl)
theorem fn29 : FN Tryd.prog 29 := FN.of Tryd.func29 (by kernel_rfl) (by kernel_rfl)
theorem fn30 : FN Tryd.prog 30 := FN.of Tryd.func30 (by kernel_rfl) (by kernel_rfl)
theorem bool4 : Tryd.prog.underlying 4 = some .bool := by kernel_rfl
theorem fn32 : FN Tryd.prog 32 := FN.of Tryd.func32 (by kernel_rfl) (by kernel_rfl)
theorem fn33 : FN Tryd.prog 33 := FN.of Tryd.func33 (by kernel_rfl) (by kernel_rfl)
theorem fn26 : FN Tryd.prog 26 := FN.of Tryd.func26 (by kernel_rfl) (by kernel_rfl)
theorem fn34 : FN Tryd.prog 34 := FN.of Tryd.func34 (by kernel_rfl) (by kernel_rfl)
theorem fn35 : FN Tryd.prog 35 := FN.of Tryd.func35 (by kernel_rfl) (by kernel_rfl)
theorem eqin43 (d : Nat) (x y : TAddr) (w : World) : (Op.equalIn (d + 2) 43 (.agg #[S x.host, S x.path]) (.agg #[S y.host, S y.path])).run Tryd.prog w = .ok (decide (x = y)) w := by
  have hf : Tryd.prog.fieldsOf 43 = #[⟨ "Host", 9, 0, false, "", "", 0⟩, ⟨ "Path", 9, 1, false, "", "", 16⟩] := by kernel_rfl
  rw [run_equalIn_agg w (d + 1) 43 _ _ (by kernel_rfl) (by kernel_rfl), hf]
  simp [Op.eqFields, go_sem, TAddr.ext_iff]
  try ((repeat' split) <;> simp_all)
theorem eqt43 : EqT Tryd.prog 43 (α := TAddr) := run_eqt_of (eqin43 9998) (by kernel_rfl)

end Go.Sw
