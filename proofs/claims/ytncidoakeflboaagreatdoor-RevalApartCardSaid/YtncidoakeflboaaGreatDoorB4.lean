/- Laws of the walks and of the models, part 4 (merged by program). -/
import Derived.Test.YtncidoakeflboaaGreatDoorB3
import Derived.Test.YtncidoakeflboaaGreatDoorProg
set_option linter.unusedVariables false
set_option linter.unusedSimpArgs false
set_option maxRecDepth 20000
set_option maxHeartbeats 4000000
namespace Go.Proofs.YtncidoakeflboaaGreatDoor
open Go Go.SL Go.Proofs
theorem HM : Tryz.prog.follows .mixedOrders = true := by kernel_rfl
instance A219 : AI Tryz.prog 219 9 5 := .of (by kernel_rfl) (by kernel_rfl)
instance A237 : AI Tryz.prog 237 3 12 := .of (by kernel_rfl) (by kernel_rfl)
instance B144 : BI Tryz.prog 144 [.bool false, .int .i64 0] [(0, 1), (1, 1)] := .of (by kernel_rfl) (by kernel_rfl)
instance B185 : BI Tryz.prog 185 [.int .i64 0, .int .i64 0, .int .i64 0] [(0, 1), (1, 1), (2, 1)] := .of (by kernel_rfl) (by kernel_rfl)
instance B197 : BI Tryz.prog 197 [.slice none 0 0, .slice none 0 0] [(0, 1), (1, 1)] := .of (by kernel_rfl) (by kernel_rfl)
instance B219 : BAI Tryz.prog 219 [.string ⟨#[]⟩, .string ⟨#[]⟩, .string ⟨#[]⟩, .string ⟨#[]⟩, .string ⟨#[]⟩] := .of (by kernel_rfl) (by kernel_rfl)
instance B83 : BI Tryz.prog 83 [.string ⟨#[]⟩, .string ⟨#[]⟩] [(0, 1), (1, 1)] := .of (by kernel_rfl) (by kernel_rfl)
instance B97 : BI Tryz.prog 97 [.map none, .map none, .slice none 0 0] [(0, 1), (1, 1), (2, 1)] := .of (by kernel_rfl) (by kernel_rfl)
instance C100 : CI Tryz.prog 100 := .of (by kernel_rfl)
instance C101 : CI Tryz.prog 101 := .of (by kernel_rfl)
instance C111 : CI Tryz.prog 111 := .of (by kernel_rfl)
instance C114 : CI Tryz.prog 114 := .of (by kernel_rfl)
instance C122 : CI Tryz.prog 122 := .of (by kernel_rfl)
instance C123 : CI Tryz.prog 123 := .of (by kernel_rfl)
instance C127 : CI Tryz.prog 127 := .of (by kernel_rfl)
instance C128 : CI Tryz.prog 128 := .of (by kernel_rfl)
instance C129 : CI Tryz.prog 129 := .of (by kernel_rfl)
instance C131 : CI Tryz.prog 131 := .of (by kernel_rfl)
instance C132 : CI Tryz.prog 132 := .of (by kernel_rfl)
instance C133 : CI Tryz.prog 133 := .of (by kernel_rfl)
instance C134 : CI Tryz.prog 134 := .of (by kernel_rfl)
instance C135 : CI Tryz.prog 135 := .of (by kernel_rfl)
instance C136 : CI Tryz.prog 136 := .of (by kernel_rfl)
instance C137 : CI Tryz.prog 137 := .of (by kernel_rfl)
instance C142 : CI Tryz.prog 142 := .of (by kernel_rfl)
instance C144 : CI Tryz.prog 144 := .of (by kernel_rfl)
instance C145 : CI Tryz.prog 145 := .of (by kernel_rfl)
instance C157 : CI Tryz.prog 157 := .of (by kernel_rfl)
instance C158 : CI Tryz.prog 158 := .of (by kernel_rfl)
instance C159 : CI Tryz.prog 159 := .of (by kernel_rfl)
instance C162 : CI Tryz.prog 162 := .of (by kernel_rfl)
instance C163 : CI Tryz.prog 163 := .of (by kernel_rfl)
instance C171 : CI Tryz.prog 171 := .of (by kernel_rfl)
instance C172 : CI Tryz.prog 172 := .of (by kernel_rfl)
instance C174 : CI Tryz.prog 174 := .of (by kernel_rfl)
instance C182 : CI Tryz.prog 182 := .of (by kernel_rfl)
instance C184 : CI Tryz.prog 184 := .of (by kernel_rfl)
instance C185 : CI Tryz.prog 185 := .of (by kernel_rfl)
instance C189 : CI Tryz.prog 189 := .of (by kernel_rfl)
instance C43 : CI Tryz.prog 43 := .of (by kernel_rfl)
instance C44 : CI Tryz.prog 44 := .of (by kernel_rfl)
instance C45 : CI Tryz.prog 45 := .of (by kernel_rfl)
instance C46 : CI Tryz.prog 46 := .of (by kernel_rfl)
instance C47 : CI Tryz.prog 47 := .of (by kernel_rfl)
instance C74 : CI Tryz.prog 74 := .of (by kernel_rfl)
instance C75 : CI Tryz.prog 75 := .of (by kernel_rfl)
instance C76 : CI Tryz.prog 76 := .of (by kernel_rfl)
instance C77 : CI Tryz.prog 77 := .of (by kernel_rfl)
instance C78 : CI Tryz.prog 78 := .of (by kernel_rfl)
instance C79 : CI Tryz.prog 79 := .of (by kernel_rfl)
instance C80 : CI Tryz.prog 80 := .of (by kernel_rfl)
instance C98 : CI Tryz.prog 98 := .of (by kernel_rfl)
instance C99 : CI Tryz.prog 99 := .of (by kernel_rfl)
instance F144_0 : FI Tryz.prog 144 0 4 0 := .of (by kernel_rfl)
instance F144_1 : FI Tryz.prog 144 1 31 1 := .of (by kernel_rfl)
instance F185_0 : FI Tryz.prog 185 0 3 0 := .of (by kernel_rfl)
instance F185_1 : FI Tryz.prog 185 1 3 1 := .of (by kernel_rfl)
instance F185_2 : FI Tryz.prog 185 2 3 2 := .of (by kernel_rfl)
instance F197_0 : FI Tryz.prog 197 0 86 0 := .of (by kernel_rfl)
instance F197_1 : FI Tryz.prog 197 1 86 1 := .of (by kernel_rfl)
instance F30_0 : FI Tryz.prog 30 0 3 0 := .of (by kernel_rfl)
instance F30_1 : FI Tryz.prog 30 1 9 1 := .of (by kernel_rfl)
instance F30_2 : FI Tryz.prog 30 2 3 2 := .of (by kernel_rfl)
instance F30_3 : FI Tryz.prog 30 3 3 3 := .of (by kernel_rfl)
instance F30_4 : FI Tryz.prog 30 4 3 4 := .of (by kernel_rfl)
instance F30_5 : FI Tryz.prog 30 5 9 5 := .of (by kernel_rfl)
instance F30_6 : FI Tryz.prog 30 6 9 6 := .of (by kernel_rfl)
instance F30_7 : FI Tryz.prog 30 7 3 7 := .of (by kernel_rfl)
instance F30_8 : FI Tryz.prog 30 8 28 8 := .of (by kernel_rfl)
instance F40_0 : FI Tryz.prog 40 0 9 0 := .of (by kernel_rfl)
instance F40_1 : FI Tryz.prog 40 1 9 1 := .of (by kernel_rfl)
instance F40_2 : FI Tryz.prog 40 2 3 2 := .of (by kernel_rfl)
instance F40_3 : FI Tryz.prog 40 3 3 3 := .of (by kernel_rfl)
instance F40_4 : FI Tryz.prog 40 4 9 4 := .of (by kernel_rfl)
instance F40_5 : FI Tryz.prog 40 5 9 5 := .of (by kernel_rfl)
instance F40_6 : FI Tryz.prog 40 6 38 6 := .of (by kernel_rfl)
instance F46_0 : FI Tryz.prog 46 0 9 0 := .of (by kernel_rfl)
instance F46_1 : FI Tryz.prog 46 1 9 1 := .of (by kernel_rfl)
instance F46_2 : FI Tryz.prog 46 2 9 2 := .of (by kernel_rfl)
instance F46_3 : FI Tryz.prog 46 3 9 3 := .of (by kernel_rfl)
instance F46_4 : FI Tryz.prog 46 4 9 4 := .of (by kernel_rfl)
instance F48_0 : FI Tryz.prog 48 0 46 0 := .of (by kernel_rfl)
instance F48_1 : FI Tryz.prog 48 1 3 5 := .of (by kernel_rfl)
instance F48_2 : FI Tryz.prog 48 2 3 6 := .of (by kernel_rfl)
instance F78_0 : FI Tryz.prog 78 0 9 0 := .of (by kernel_rfl)
instance F78_1 : FI Tryz.prog 78 1 9 1 := .of (by kernel_rfl)
instance F78_2 : FI Tryz.prog 78 2 3 2 := .of (by kernel_rfl)
instance F78_3 : FI Tryz.prog 78 3 4 3 := .of (by kernel_rfl)
instance F78_4 : FI Tryz.prog 78 4 9 4 := .of (by kernel_rfl)
instance F78_7 : FI Tryz.prog 78 7 73 7 := .of (by kernel_rfl)
instance F83_0 : FI Tryz.prog 83 0 9 0 := .of (by kernel_rfl)
instance F83_1 : FI Tryz.prog 83 1 9 1 := .of (by kernel_rfl)
instance F97_0 : FI Tryz.prog 97 0 94 0 := .of (by kernel_rfl)
instance F97_1 : FI Tryz.prog 97 1 95 1 := .of (by kernel_rfl)
instance F97_2 : FI Tryz.prog 97 2 73 2 := .of (by kernel_rfl)
instance M3 : MI Tryz.prog 3 1 8 [.int .i64 0] := .of (by kernel_rfl) rfl
instance M83 : MI Tryz.prog 83 2 32 [.string ⟨#[]⟩, .string ⟨#[]⟩] := .of (by kernel_rfl) rfl
instance M9 : MI Tryz.prog 9 1 16 [.string ⟨#[]⟩] := .of (by kernel_rfl) rfl
instance S181 : SI Tryz.prog 181 144 2 := .of (by kernel_rfl) (by kernel_rfl)
instance S22 : SI Tryz.prog 22 78 8 := .of (by kernel_rfl) (by kernel_rfl)
instance S24 : SI Tryz.prog 24 48 7 := .of (by kernel_rfl) (by kernel_rfl)
instance S28 : SI Tryz.prog 28 40 7 := .of (by kernel_rfl) (by kernel_rfl)
instance S38 : SI Tryz.prog 38 83 2 := .of (by kernel_rfl) (by kernel_rfl)
instance S73 : SI Tryz.prog 73 9 1 := .of (by kernel_rfl) (by kernel_rfl)
instance S86 : SI Tryz.prog 86 3 1 := .of (by kernel_rfl) (by kernel_rfl)
instance T144 : TI Tryz.prog 144 true 2 := .of (by kernel_rfl)
instance T185 : TI Tryz.prog 185 true 3 := .of (by kernel_rfl)
instance T219 : TI Tryz.prog 219 true 5 := .of (by kernel_rfl)
instance T28 : TI Tryz.prog 28 false 1 := .of (by kernel_rfl)
instance T3 : TI Tryz.prog 3 false 1 := .of (by kernel_rfl)
instance T30 : TI Tryz.prog 30 true 9 := .of (by kernel_rfl)
instance T31 : TI Tryz.prog 31 false 1 := .of (by kernel_rfl)
instance T38 : TI Tryz.prog 38 false 1 := .of (by kernel_rfl)
instance T4 : TI Tryz.prog 4 false 1 := .of (by kernel_rfl)
instance T40 : TI Tryz.prog 40 true 7 := .of (by kernel_rfl)
instance T46 : TI Tryz.prog 46 true 5 := .of (by kernel_rfl)
instance T48 : TI Tryz.prog 48 true 7 := .of (by kernel_rfl)
instance T56 : TI Tryz.prog 56 false 1 := .of (by kernel_rfl)
instance T73 : TI Tryz.prog 73 false 1 := .of (by kernel_rfl)
instance T78 : TI Tryz.prog 78 true 8 := .of (by kernel_rfl)
instance T83 : TI Tryz.prog 83 true 2 := .of (by kernel_rfl)
instance T86 : TI Tryz.prog 86 false 1 := .of (by kernel_rfl)
instance T9 : TI Tryz.prog 9 false 1 := .of (by kernel_rfl)
instance T94 : TI Tryz.prog 94 false 1 := .of (by kernel_rfl)
instance T95 : TI Tryz.prog 95 false 1 := .of (by kernel_rfl)
theorem U133 : Tryz.prog.underlying 133 = some (.int .u64) := by kernel_rfl
instance UV133 : UI Tryz.prog 133 (.int .u64) := ⟨U133⟩
theorem U175 : Tryz.prog.underlying 175 = some (.pointer (Tryz.prog.pointee 175)) := by kernel_rfl
instance UP175 : PI Tryz.prog 175 := ⟨U175⟩
theorem U3 : Tryz.prog.underlying 3 = some (.int .i64) := by kernel_rfl
instance UV3 : UI Tryz.prog 3 (.int .i64) := ⟨U3⟩
theorem U56 : Tryz.prog.underlying 56 = some (.pointer (Tryz.prog.pointee 56)) := by kernel_rfl
instance UP56 : PI Tryz.prog 56 := ⟨U56⟩
theorem U9 : Tryz.prog.underlying 9 = some .string := by kernel_rfl
instance UV9 : UI Tryz.prog 9 .string := ⟨U9⟩
theorem U133s : (Tryz.prog.underlying 133).isSome = true := by kernel_rfl
instance UW133 : SoI Tryz.prog 133 := ⟨U133s⟩
theorem U3s : (Tryz.prog.underlying 3).isSome = true := by kernel_rfl
instance UW3 : SoI Tryz.prog 3 := ⟨U3s⟩
instance Z144 : ZI Tryz.prog 144 [.bool false, .int .i64 0] := .of (by kernel_rfl)
instance Z185 : ZI Tryz.prog 185 [.int .i64 0, .int .i64 0, .int .i64 0] := .of (by kernel_rfl)
instance Z219 : ZI Tryz.prog 219 [.string ⟨#[]⟩, .string ⟨#[]⟩, .string ⟨#[]⟩, .string ⟨#[]⟩, .string ⟨#[]⟩] := .of (by kernel_rfl)
instance Z3 : ZI Tryz.prog 3 [.int .i64 0] := .of (by kernel_rfl)
instance Z40 : ZI Tryz.prog 40 [.string ⟨#[]⟩, .string ⟨#[]⟩, .int .i64 0, .int .i64 0, .string ⟨#[]⟩, .string ⟨#[]⟩, .slice none 0 0] := .of (by kernel_rfl)
instance Z48 : ZI Tryz.prog 48 [.string ⟨#[]⟩, .string ⟨#[]⟩, .string ⟨#[]⟩, .string ⟨#[]⟩, .string ⟨#[]⟩, .int .i64 0, .int .i64 0] := .of (by kernel_rfl)
instance Z78 : ZI Tryz.prog 78 [.string ⟨#[]⟩, .string ⟨#[]⟩, .int .i64 0, .bool false, .string ⟨#[]⟩, .bool false, .bool false, .slice none 0 0] := .of (by kernel_rfl)
instance Z83 : ZI Tryz.prog 83 [.string ⟨#[]⟩, .string ⟨#[]⟩] := .of (by kernel_rfl)
instance Z9 : ZI Tryz.prog 9 [.string ⟨#[]⟩] := .of (by kernel_rfl)
end Go.Proofs.YtncidoakeflboaaGreatDoor

namespace Go.Proofs.YtncidoakeflboaaGreatDoor
open Go Go.SL Go.Proofs
instance B78 : BI Tryz.prog 78 [.string ⟨#[]⟩, .string ⟨#[]⟩, .int .i64 0, .bool false, .string ⟨#[]⟩, .bool false, .bool false, .slice none 0 0] [(0, 1), (1, 1), (2, 1), (3, 1), (4, 1), (5, 1), (6, 1), (7, 1)] := .of (by kernel_rfl) (by kernel_rfl)
instance C102 : CI Tryz.prog 102 := .of (by kernel_rfl)
instance C103 : CI Tryz.prog 103 := .of (by kernel_rfl)
instance C57 : CI Tryz.prog 57 := .of (by kernel_rfl)
instance C58 : CI Tryz.prog 58 := .of (by kernel_rfl)
instance C59 : CI Tryz.prog 59 := .of (by kernel_rfl)
instance C65 : CI Tryz.prog 65 := .of (by kernel_rfl)
end Go.Proofs.YtncidoakeflboaaGreatDoor

namespace Go.Proofs.YtncidoakeflboaaGreatDoor
open Go Go.SL Go.Proofs
instance B46 : BI Tryz.prog 46 [.string ⟨#[]⟩, .string ⟨#[]⟩, .string ⟨#[]⟩, .string ⟨#[]⟩, .string ⟨#[]⟩] [(0, 1), (1, 1), (2, 1), (3, 1), (4, 1)] := .of (by kernel_rfl) (by kernel_rfl)
instance B48 : BI Tryz.prog 48 [.string ⟨#[]⟩, .string ⟨#[]⟩, .string ⟨#[]⟩, .string ⟨#[]⟩, .string ⟨#[]⟩, .int .i64 0, .int .i64 0] [(0, 5), (5, 1), (6, 1)] := .of (by kernel_rfl) (by kernel_rfl)
instance C107 : CI Tryz.prog 107 := .of (by kernel_rfl)
instance C108 : CI Tryz.prog 108 := .of (by kernel_rfl)
instance C109 : CI Tryz.prog 109 := .of (by kernel_rfl)
instance C110 : CI Tryz.prog 110 := .of (by kernel_rfl)
instance C14 : CI Tryz.prog 14 := .of (by kernel_rfl)
instance C140 : CI Tryz.prog 140 := .of (by kernel_rfl)
instance C141 : CI Tryz.prog 141 := .of (by kernel_rfl)
instance C33 : CI Tryz.prog 33 := .of (by kernel_rfl)
instance C34 : CI Tryz.prog 34 := .of (by kernel_rfl)
instance C36 : CI Tryz.prog 36 := .of (by kernel_rfl)
instance C37 : CI Tryz.prog 37 := .of (by kernel_rfl)
instance C38 : CI Tryz.prog 38 := .of (by kernel_rfl)
instance C39 : CI Tryz.prog 39 := .of (by kernel_rfl)
instance C42 : CI Tryz.prog 42 := .of (by kernel_rfl)
instance C62 : CI Tryz.prog 62 := .of (by kernel_rfl)
instance C63 : CI Tryz.prog 63 := .of (by kernel_rfl)
instance C64 : CI Tryz.prog 64 := .of (by kernel_rfl)
instance C66 : CI Tryz.prog 66 := .of (by kernel_rfl)
instance C73 : CI Tryz.prog 73 := .of (by kernel_rfl)
instance EI46 : EI Tryz.prog 46 [.str, .str, .str, .str, .str] := .of (by kernel_rfl)
instance M46 : MI Tryz.prog 46 5 80 [.string ⟨#[]⟩, .string ⟨#[]⟩, .string ⟨#[]⟩, .string ⟨#[]⟩, .string ⟨#[]⟩] := .of (by kernel_rfl) rfl
instance M48 : MI Tryz.prog 48 7 96 [.string ⟨#[]⟩, .string ⟨#[]⟩, .string ⟨#[]⟩, .string ⟨#[]⟩, .string ⟨#[]⟩, .int .i64 0, .int .i64 0] := .of (by kernel_rfl) rfl
instance S84 : SI Tryz.prog 84 46 5 := .of (by kernel_rfl) (by kernel_rfl)
instance Z46 : ZI Tryz.prog 46 [.string ⟨#[]⟩, .string ⟨#[]⟩, .string ⟨#[]⟩, .string ⟨#[]⟩, .string ⟨#[]⟩] := .of (by kernel_rfl)
end Go.Proofs.YtncidoakeflboaaGreatDoor

namespace Go.Proofs.YtncidoakeflboaaGreatDoor
open Go Go.SL Go.Proofs
instance C106 : CI Tryz.prog 106 := .of (by kernel_rfl)
instance C26 : CI Tryz.prog 26 := .of (by kernel_rfl)
instance C54 : CI Tryz.prog 54 := .of (by kernel_rfl)
instance C61 : CI Tryz.prog 61 := .of (by kernel_rfl)
instance C95 : CI Tryz.prog 95 := .of (by kernel_rfl)
instance EI83 : EI Tryz.prog 83 [.str, .str] := .of (by kernel_rfl)
end Go.Proofs.YtncidoakeflboaaGreatDoor

namespace Go.Proofs.YtncidoakeflboaaGreatDoor
open Go Go.SL Go.Proofs
instance A224 : AI Tryz.prog 224 133 2 := .of (by kernel_rfl) (by kernel_rfl)
instance A229 : AI Tryz.prog 229 5 20 := .of (by kernel_rfl) (by kernel_rfl)
instance B103 : BI Tryz.prog 103 [.string ⟨#[]⟩, .int .i64 0, .map none] [(0, 1), (1, 1), (2, 1)] := .of (by kernel_rfl) (by kernel_rfl)
instance B105 : BI Tryz.prog 105 [.int .i64 0, .int .i64 0] [(0, 1), (1, 1)] := .of (by kernel_rfl) (by kernel_rfl)
instance B107 : BI Tryz.prog 107 [.string ⟨#[]⟩, .int .i64 0, .int .i64 0, .int .i64 0, .int .i64 0] [(0, 1), (1, 1), (2, 1), (3, 2)] := .of (by kernel_rfl) (by kernel_rfl)
instance B150 : BI Tryz.prog 150 [.string ⟨#[]⟩, .int .i64 0] [(0, 1), (1, 1)] := .of (by kernel_rfl) (by kernel_rfl)
instance B152 : BI Tryz.prog 152 [.string ⟨#[]⟩, .int .i64 0, .int .i64 0] [(0, 2), (2, 1)] := .of (by kernel_rfl) (by kernel_rfl)
instance B171 : BI Tryz.prog 171 [.string ⟨#[]⟩, .string ⟨#[]⟩, .string ⟨#[]⟩, .string ⟨#[]⟩, .string ⟨#[]⟩] [(0, 1), (1, 1), (2, 1), (3, 1), (4, 1)] := .of (by kernel_rfl) (by kernel_rfl)
instance B224 : BAI Tryz.prog 224 [.int .u64 0, .int .u64 0] := .of (by kernel_rfl) (by kernel_rfl)
instance B26 : BI Tryz.prog 26 [.slice none 0 0, .string ⟨#[]⟩, .slice none 0 0, .slice none 0 0, .string ⟨#[]⟩, .int .i64 0, .int .i64 0, .int .i64 0, .string ⟨#[]⟩, .string ⟨#[]⟩, .string ⟨#[]⟩] [(0, 1), (1, 1), (2, 1), (3, 1), (4, 1), (5, 1), (6, 1), (7, 1), (8, 1), (9, 1), (10, 1)] := .of (by kernel_rfl) (by kernel_rfl)
instance B30 : BI Tryz.prog 30 [.int .i64 0, .string ⟨#[]⟩, .int .i64 0, .int .i64 0, .int .i64 0, .string ⟨#[]⟩, .string ⟨#[]⟩, .int .i64 0, .slice none 0 0] [(0, 1), (1, 1), (2, 1), (3, 1), (4, 1), (5, 1), (6, 1), (7, 1), (8, 1)] := .of (by kernel_rfl) (by kernel_rfl)
instance B40 : BI Tryz.prog 40 [.string ⟨#[]⟩, .string ⟨#[]⟩, .int .i64 0, .int .i64 0, .string ⟨#[]⟩, .string ⟨#[]⟩, .slice none 0 0] [(0, 1), (1, 1), (2, 1), (3, 1), (4, 1), (5, 1), (6, 1)] := .of (by kernel_rfl) (by kernel_rfl)
instance C104 : CI Tryz.prog 104 := .of (by kernel_rfl)
instance C105 : CI Tryz.prog 105 := .of (by kernel_rfl)
instance C11 : CI Tryz.prog 11 := .of (by kernel_rfl)
instance C115 : CI Tryz.prog 115 := .of (by kernel_rfl)
instance C116 : CI Tryz.prog 116 := .of (by kernel_rfl)
instance C117 : CI Tryz.prog 117 := .of (by kernel_rfl)
instance C118 : CI Tryz.prog 118 := .of (by kernel_rfl)
instance C119 : CI Tryz.prog 119 := .of (by kernel_rfl)
instance C12 : CI Tryz.prog 12 := .of (by kernel_rfl)
instance C124 : CI Tryz.prog 124 := .of (by kernel_rfl)
instance C125 : CI Tryz.prog 125 := .of (by kernel_rfl)
instance C126 : CI Tryz.prog 126 := .of (by kernel_rfl)
instance C130 : CI Tryz.prog 130 := .of (by kernel_rfl)
instance C138 : CI Tryz.prog 138 := .of (by kernel_rfl)
instance C139 : CI Tryz.prog 139 := .of (by kernel_rfl)
instance C160 : CI Tryz.prog 160 := .of (by kernel_rfl)
instance C164 : CI Tryz.prog 164 := .of (by kernel_rfl)
instance C165 : CI Tryz.prog 165 := .of (by kernel_rfl)
instance C166 : CI Tryz.prog 166 := .of (by kernel_rfl)
instance C167 : CI Tryz.prog 167 := .of (by kernel_rfl)
instance C168 : CI Tryz.prog 168 := .of (by kernel_rfl)
instance C169 : CI Tryz.prog 169 := .of (by kernel_rfl)
instance C170 : CI Tryz.prog 170 := .of (by kernel_rfl)
instance C173 : CI Tryz.prog 173 := .of (by kernel_rfl)
instance C21 : CI Tryz.prog 21 := .of (by kernel_rfl)
instance C22 : CI Tryz.prog 22 := .of (by kernel_rfl)
instance C23 : CI Tryz.prog 23 := .of (by kernel_rfl)
instance C27 : CI Tryz.prog 27 := .of (by kernel_rfl)
instance C30 : CI Tryz.prog 30 := .of (by kernel_rfl)
instance C40 : CI Tryz.prog 40 := .of (by kernel_rfl)
instance C41 : CI Tryz.prog 41 := .of (by kernel_rfl)
instance C48 : CI Tryz.prog 48 := .of (by kernel_rfl)
instance C49 : CI Tryz.prog 49 := .of (by kernel_rfl)
instance C50 : CI Tryz.prog 50 := .of (by kernel_rfl)
instance C51 : CI Tryz.prog 51 := .of (by kernel_rfl)
instance C52 : CI Tryz.prog 52 := .of (by kernel_rfl)
instance C55 : CI Tryz.prog 55 := .of (by kernel_rfl)
instance C56 : CI Tryz.prog 56 := .of (by kernel_rfl)
instance C60 : CI Tryz.prog 60 := .of (by kernel_rfl)
instance C67 : CI Tryz.prog 67 := .of (by kernel_rfl)
instance C68 : CI Tryz.prog 68 := .of (by kernel_rfl)
instance C69 : CI Tryz.prog 69 := .of (by kernel_rfl)
instance C70 : CI Tryz.prog 70 := .of (by kernel_rfl)
instance C71 : CI Tryz.prog 71 := .of (by kernel_rfl)
instance C72 : CI Tryz.prog 72 := .of (by kernel_rfl)
instance C8 : CI Tryz.prog 8 := .of (by kernel_rfl)
instance C81 : CI Tryz.prog 81 := .of (by kernel_rfl)
instance C82 : CI Tryz.prog 82 := .of (by kernel_rfl)
instance C83 : CI Tryz.prog 83 := .of (by kernel_rfl)
instance C84 : CI Tryz.prog 84 := .of (by kernel_rfl)
instance C85 : CI Tryz.prog 85 := .of (by kernel_rfl)
instance C86 : CI Tryz.prog 86 := .of (by kernel_rfl)
instance C87 : CI Tryz.prog 87 := .of (by kernel_rfl)
instance C88 : CI Tryz.prog 88 := .of (by kernel_rfl)
instance C89 : CI Tryz.prog 89 := .of (by kernel_rfl)
instance C9 : CI Tryz.prog 9 := .of (by kernel_rfl)
instance C90 : CI Tryz.prog 90 := .of (by kernel_rfl)
instance C91 : CI Tryz.prog 91 := .of (by kernel_rfl)
instance C92 : CI Tryz.prog 92 := .of (by kernel_rfl)
instance C93 : CI Tryz.prog 93 := .of (by kernel_rfl)
instance C94 : CI Tryz.prog 94 := .of (by kernel_rfl)
instance C96 : CI Tryz.prog 96 := .of (by kernel_rfl)
instance C97 : CI Tryz.prog 97 := .of (by kernel_rfl)
instance EI224 : EI Tryz.prog 224 [.int, .int] := .of (by kernel_rfl)
instance F103_0 : FI Tryz.prog 103 0 9 0 := .of (by kernel_rfl)
instance F103_2 : FI Tryz.prog 103 2 101 2 := .of (by kernel_rfl)
instance F105_0 : FI Tryz.prog 105 0 3 0 := .of (by kernel_rfl)
instance F105_1 : FI Tryz.prog 105 1 3 1 := .of (by kernel_rfl)
instance F107_0 : FI Tryz.prog 107 0 9 0 := .of (by kernel_rfl)
instance F107_1 : FI Tryz.prog 107 1 3 1 := .of (by kernel_rfl)
instance F107_2 : FI Tryz.prog 107 2 3 2 := .of (by kernel_rfl)
instance F107_3 : FI Tryz.prog 107 3 105 3 := .of (by kernel_rfl)
instance F152_0 : FI Tryz.prog 152 0 150 0 := .of (by kernel_rfl)
instance F171_4 : FI Tryz.prog 171 4 9 4 := .of (by kernel_rfl)
instance F26_0 : FI Tryz.prog 26 0 22 0 := .of (by kernel_rfl)
instance F26_1 : FI Tryz.prog 26 1 9 1 := .of (by kernel_rfl)
instance F26_10 : FI Tryz.prog 26 10 9 10 := .of (by kernel_rfl)
instance F26_2 : FI Tryz.prog 26 2 23 2 := .of (by kernel_rfl)
instance F26_3 : FI Tryz.prog 26 3 24 3 := .of (by kernel_rfl)
instance F26_4 : FI Tryz.prog 26 4 9 4 := .of (by kernel_rfl)
instance F26_5 : FI Tryz.prog 26 5 3 5 := .of (by kernel_rfl)
instance F26_6 : FI Tryz.prog 26 6 3 6 := .of (by kernel_rfl)
instance F26_7 : FI Tryz.prog 26 7 3 7 := .of (by kernel_rfl)
instance F26_8 : FI Tryz.prog 26 8 9 8 := .of (by kernel_rfl)
instance F26_9 : FI Tryz.prog 26 9 9 9 := .of (by kernel_rfl)
instance F78_5 : FI Tryz.prog 78 5 4 5 := .of (by kernel_rfl)
instance M107 : MI Tryz.prog 107 5 48 [.string ⟨#[]⟩, .int .i64 0, .int .i64 0, .int .i64 0, .int .i64 0] := .of (by kernel_rfl) rfl
instance M171 : MI Tryz.prog 171 5 80 [.string ⟨#[]⟩, .string ⟨#[]⟩, .string ⟨#[]⟩, .string ⟨#[]⟩, .string ⟨#[]⟩] := .of (by kernel_rfl) rfl
instance M40 : MI Tryz.prog 40 7 104 [.string ⟨#[]⟩, .string ⟨#[]⟩, .int .i64 0, .int .i64 0, .string ⟨#[]⟩, .string ⟨#[]⟩, .slice none 0 0] := .of (by kernel_rfl) rfl
instance S167 : SI Tryz.prog 167 171 5 := .of (by kernel_rfl) (by kernel_rfl)
instance S23 : SI Tryz.prog 23 107 5 := .of (by kernel_rfl) (by kernel_rfl)
instance T101 : TI Tryz.prog 101 false 1 := .of (by kernel_rfl)
instance T105 : TI Tryz.prog 105 true 2 := .of (by kernel_rfl)
instance T107 : TI Tryz.prog 107 true 5 := .of (by kernel_rfl)
instance T133 : TI Tryz.prog 133 false 1 := .of (by kernel_rfl)
instance T150 : TI Tryz.prog 150 true 2 := .of (by kernel_rfl)
instance T152 : TI Tryz.prog 152 true 3 := .of (by kernel_rfl)
instance T158 : TI Tryz.prog 158 false 1 := .of (by kernel_rfl)
instance T171 : TI Tryz.prog 171 true 5 := .of (by kernel_rfl)
instance T22 : TI Tryz.prog 22 false 1 := .of (by kernel_rfl)
instance T224 : TI Tryz.prog 224 true 2 := .of (by kernel_rfl)
instance T23 : TI Tryz.prog 23 false 1 := .of (by kernel_rfl)
instance T24 : TI Tryz.prog 24 false 1 := .of (by kernel_rfl)
instance T26 : TI Tryz.prog 26 true 11 := .of (by kernel_rfl)
instance T5 : TI Tryz.prog 5 false 1 := .of (by kernel_rfl)
instance T59 : TI Tryz.prog 59 false 1 := .of (by kernel_rfl)
theorem U129 : Tryz.prog.underlying 129 = some (.int .u64) := by kernel_rfl
instance UV129 : UI Tryz.prog 129 (.int .u64) := ⟨U129⟩
theorem U4 : Tryz.prog.underlying 4 = some .bool := by kernel_rfl
instance UV4 : UI Tryz.prog 4 .bool := ⟨U4⟩
theorem U5 : Tryz.prog.underlying 5 = some (.int .u8) := by kernel_rfl
instance UV5 : UI Tryz.prog 5 (.int .u8) := ⟨U5⟩
theorem U59 : Tryz.prog.underlying 59 = some (.pointer (Tryz.prog.pointee 59)) := by kernel_rfl
instance UP59 : PI Tryz.prog 59 := ⟨U59⟩
theorem U129s : (Tryz.prog.underlying 129).isSome = true := by kernel_rfl
instance UW129 : SoI Tryz.prog 129 := ⟨U129s⟩
instance Z105 : ZI Tryz.prog 105 [.int .i64 0, .int .i64 0] := .of (by kernel_rfl)
instance Z107 : ZI Tryz.prog 107 [.string ⟨#[]⟩, .int .i64 0, .int .i64 0, .int .i64 0, .int .i64 0] := .of (by kernel_rfl)
instance Z150 : ZI Tryz.prog 150 [.string ⟨#[]⟩, .int .i64 0] := .of (by kernel_rfl)
instance Z152 : ZI Tryz.prog 152 [.string ⟨#[]⟩, .int .i64 0, .int .i64 0] := .of (by kernel_rfl)
instance Z158 : ZI Tryz.prog 158 [.nilFunc] := .of (by kernel_rfl)
instance Z171 : ZI Tryz.prog 171 [.string ⟨#[]⟩, .string ⟨#[]⟩, .string ⟨#[]⟩, .string ⟨#[]⟩, .string ⟨#[]⟩] := .of (by kernel_rfl)
instance Z224 : ZI Tryz.prog 224 [.int .u64 0, .int .u64 0] := .of (by kernel_rfl)
instance Z229 : ZI Tryz.prog 229 [.int .u8 0, .int .u8 0, .int .u8 0, .int .u8 0, .int .u8 0, .int .u8 0, .int .u8 0, .int .u8 0, .int .u8 0, .int .u8 0, .int .u8 0, .int .u8 0, .int .u8 0, .int .u8 0, .int .u8 0, .int .u8 0, .int .u8 0, .int .u8 0, .int .u8 0, .int .u8 0] := .of (by kernel_rfl)
instance Z26 : ZI Tryz.prog 26 [.slice none 0 0, .string ⟨#[]⟩, .slice none 0 0, .slice none 0 0, .string ⟨#[]⟩, .int .i64 0, .int .i64 0, .int .i64 0, .string ⟨#[]⟩, .string ⟨#[]⟩, .string ⟨#[]⟩] := .of (by kernel_rfl)
instance Z28 : ZI Tryz.prog 28 [.slice none 0 0] := .of (by kernel_rfl)
instance Z30 : ZI Tryz.prog 30 [.int .i64 0, .string ⟨#[]⟩, .int .i64 0, .int .i64 0, .int .i64 0, .string ⟨#[]⟩, .string ⟨#[]⟩, .int .i64 0, .slice none 0 0] := .of (by kernel_rfl)
instance Z31 : ZI Tryz.prog 31 [.int .i64 0] := .of (by kernel_rfl)
end Go.Proofs.YtncidoakeflboaaGreatDoor

namespace Go.Proofs.YtncidoakeflboaaGreatDoor
open Go Go.SL Go.Proofs
section
attribute [local irreducible] OpJ RunL Run RunD DetJ pt own star Rd RdS
theorem c_rcmp (a b : ByteArray) : AC Tryz.prog 73 ⟨[St a, St b]⟩ (stars []) (Ret (I (cmpS a b)) []) := by
 refine AC.go Tryz.func73 rfl (Nat.le_of_ble_eq_true rfl) fun β => ?_
 refine sr ?_
 refine asg rfl rfl ?_
 refine kp [0, 1] rfl ?_
 refine Run.seq ?_
 refine sr ?_
 refine sx 3 ?_
 refine kp [0, 1, 7] rfl ?_
 first | refine Run.if rfl (fun h1 => ?_) (fun h1 => ?_) | refine Run.cond rfl (fun h1 => ?_) (fun h1 => ?_)
 refine sr ?_
 refine asg rfl rfl ?_
 refine kp [4] rfl ?_
 refine Run.ret ?_
 exact ret_one (.tmp rfl .nil) (congrArg I (by symm; exact cmp_lt (by simpa [blt] using h1))) gv
 refine Run.skip ?_
 refine Run.seq ?_
 refine sr ?_
 refine sx 3 ?_
 refine kp [10] rfl ?_
 first | refine Run.if rfl (fun h2 => ?_) (fun h2 => ?_) | refine Run.cond rfl (fun h2 => ?_) (fun h2 => ?_)
 refine sr ?_
 refine asg rfl rfl ?_
 refine kp [4] rfl ?_
 refine Run.ret ?_
 exact ret_one (.tmp rfl .nil) (congrArg I (by symm; exact cmp_gt (by rcases blt_total (show ¬ a = b by simp_all) with h | h; (have h5 : Op.bytesLess a.toList b.toList = true := h; simp_all); exact h))) gv
 refine Run.skip ?_
 refine sr ?_
 refine asg rfl rfl ?_
 refine kp [4] rfl ?_
 refine Run.ret ?_
 exact ret_one (.tmp rfl .nil) (congrArg I (by symm; have e3 : a = b := (by simp_all); subst e3; exact cmp_zero (blt_irrefl a) (blt_irrefl a))) gv
theorem c_rCmp (a b : Ky) : AC Tryz.prog 42 ⟨[.agg ⟨a.c⟩, .agg ⟨b.c⟩]⟩ (stars []) (Ret (I (cmpK a b)) []) := by
 have hla : a.l.length = 5 := rfl
 have hlb : b.l.length = 5 := rfl
 refine AC.go Tryz.func42 rfl (Nat.le_of_ble_eq_true rfl) fun β => ?_
 refine sr ?_
 refine RunL.op rfl rfl (OpJ.boxA rfl fun b2 => ?_)
 refine RunL.op rfl rfl (OpJ.boxA rfl fun b3 => ?_)
 refine asg rfl rfl ?_
 refine kp [2, 3] rfl ?_
 refine sr ?_
 refine sx 10 ?_
 refine RunL.op rfl rfl (OpJ.buildSliceN (cs := a.l.flatMap Sb) inferInstance Z9 rfl (by decide) (by decide) rfl (by rfl) (by rfl) fun b19 => ?_)
 refine asg rfl rfl ?_
 refine kp [3, 5] rfl ?_
 refine sr ?_
 refine sx 10 ?_
 refine RunL.op rfl rfl (OpJ.buildSliceN (cs := b.l.flatMap Sb) inferInstance Z9 rfl (by decide) (by decide) rfl (by rfl) (by rfl) fun b30 => ?_)
 refine asg rfl rfl ?_
 refine kp [5, 6] rfl ?_
 refine Run.seq ?_
 refine sr ?_
 refine asg rfl rfl ?_
 refine kp [5, 6, 7] rfl ?_
 refine Run.block ?_
 refine Run.weak (L' := [pt b19 (blk (a.l.flatMap Sb) 9), pt b30 (blk (b.l.flatMap Sb) 9)]) (fun _ _ h => h) gv ?_
 refine Run.loop (fun mm E L => ∃ i : Nat, mm = 5 - i ∧ i ≤ 5 ∧ cmpL a.l b.l = cmpL (a.l.drop i) (b.l.drop i) ∧ E = [(5, .slice (some ⟨b19, 0, none⟩) 5 5), (6, .slice (some ⟨b30, 0, none⟩) 5 5), (7, I i)] ∧ L = [pt b19 (blk (a.l.flatMap Sb) 9), pt b30 (blk (b.l.flatMap Sb) 9)]) ⟨_, 0, rfl, Nat.zero_le _, rfl, rfl, rfl⟩ ?_
 rintro _ _ _ ⟨i, rfl, hi, hI0, rfl, rfl⟩
 refine Run.seq ?_
 refine sr ?_
 refine sx 2 ?_
 refine kp [5, 6, 7, 32] rfl ?_
 first | refine Run.if rfl (fun h1 => ?_) (fun h1 => ?_) | refine Run.cond rfl (fun h1 => ?_) (fun h1 => ?_)
 refine Run.skip ?_
 refine Run.seq ?_
 refine Run.block ?_
 refine Run.seq ?_
 refine regionD HM ?_
 obtain ⟨x, hx⟩ := get_ex (xs := a.l) (i := i) (by omega)
 obtain ⟨y, hy⟩ := get_ex (xs := b.l) (i := i) (by omega)
 have hsk := cmpL_skip hI0 hx hy
 refine tk 0 rfl rfl rfl (DetJ.move rfl) ?_
 refine tk 1 rfl rfl rfl (DetJ.move rfl) ?_
 refine tk 2 rfl rfl rfl (DetJ.indexAddr S73 rfl rfl (by omega)) ?_
 refine RunD.takeR1 3 rfl rfl kr T9 rfl pk (Rd.elem (enc := Sb) (k := 1) (fun _ => rfl) Rd.whole hx) ?_
 refine tk 4 rfl rfl rfl (DetJ.move rfl) ?_
 refine tk 5 rfl rfl rfl (DetJ.move rfl) ?_
 refine tk 6 rfl rfl rfl (DetJ.indexAddr S73 rfl rfl (by omega)) ?_
 refine RunD.takeR1 7 rfl rfl kr T9 rfl pk (Rd.elem (enc := Sb) (k := 1) (fun _ => rfl) Rd.whole hy) ?_
 refine RunD.op 8 [false, false, false, false, false, false, false, false] rfl rfl rfl kr kr (OpJ.callRet C73 rfl rfl (c_rcmp _ _) .nil ⟨po, ?_⟩)
 refine tk 9 rfl rfl rfl (DetJ.assign rfl) ?_
 refine kd [5, 6, 7, 8] rfl ?_
 refine sr ?_
 refine sx 2 ?_
 refine kp [5, 6, 7, 8, 45] rfl ?_
 first | refine Run.if rfl (fun h2 => ?_) (fun h2 => ?_) | refine Run.cond rfl (fun h2 => ?_) (fun h2 => ?_)
 refine sr ?_
 refine sx 2 ?_
 refine kp [4] rfl ?_
 refine Run.ret ?_
 first | exact ret_one (.tmp rfl .nil) (congrArg I (by symm; unfold cmpK; rw [hsk, if_neg (by simp_all)])) gv | exact ret_one (.tmp rfl .nil) (congrArg I (by symm; exact cmpL_done hI0 (by omega))) gv
 refine Run.skip ?_
 refine Run.region ?_
 refine sx 3 ?_
 exact RunL.next (Keep.sub (kt (ks := [5, 6, 7]) rfl)) _ ⟨_, by omega, i + 1, rfl, by omega, (by rw [hsk, if_pos (by simp_all)]), rfl, rfl⟩ gv
 refine Run.exit ?_
 refine sr ?_
 refine asg rfl rfl ?_
 refine kp [4] rfl ?_
 refine Run.ret ?_
 first | exact ret_one (.tmp rfl .nil) (congrArg I (by symm; unfold cmpK; rw [hsk, if_neg (by simp_all)])) gv | exact ret_one (.tmp rfl .nil) (congrArg I (by symm; exact cmpL_done hI0 (by omega))) gv
theorem c_rfits (n : Int) : AC Tryz.prog 39 ⟨[I n]⟩ (stars []) (Ret (Bo (withinB n)) []) := by
 refine AC.go Tryz.func39 rfl (Nat.le_of_ble_eq_true rfl) fun β => ?_
 refine sr ?_
 refine asg rfl rfl ?_
 refine kp [0] rfl ?_
 refine sr ?_
 refine sx 3 ?_
 first | refine RunL.splitP (t := 5) rfl (fun g1 => ?_) (fun g1 => ?_) | refine RunL.split (t := 5) rfl (fun g1 => ?_) (fun g1 => ?_)
 refine sx 4 ?_
 refine kp [2] rfl ?_
 refine Run.ret ?_
 exact ret_one (.tmp rfl .nil) (by first | (simp [tup, withinB,  *]; done) | (exfalso; omega)) gv
 refine sx 4 ?_
 refine kp [2] rfl ?_
 refine Run.ret ?_
 exact ret_one (.tmp rfl .nil) (by first | (simp [tup, withinB,  *]; done) | (exfalso; omega)) gv
theorem c_r9Same (A B : HP) (oa ob : Option Addr) (ca cb : Nat) (ts : List Tg) (hA : RdS A oa (ts.flatMap Tg.c)) (hB : RdS B ob (ts.flatMap Tg.c)) (hl : ts.length ≤ 140737488355328) : AC Tryz.prog 106 ⟨[.slice oa ts.length ca, .slice ob ts.length cb]⟩ (stars [A, B]) (Ret (Bo true) [A, B]) := by
 refine AC.go Tryz.func106 rfl (Nat.le_of_ble_eq_true rfl) fun β => ?_
 refine sr ?_
 refine asg rfl rfl ?_
 refine kp [0, 1] rfl ?_
 refine Run.seq ?_
 refine sr ?_
 refine sx 5 ?_
 refine RunL.set (congrArg Bo (decide_eq_false (fun h => h rfl))) ?_
 refine kp [0, 1, 10] rfl ?_
 refine Run.false rfl ?_
 refine Run.skip ?_
 refine Run.seq ?_
 refine sr ?_
 refine asg rfl rfl ?_
 refine kp [0, 1, 5] rfl ?_
 refine Run.block ?_
 refine Run.loop (fun mm E L => ∃ i : Nat, mm = ts.length - i ∧ i ≤ ts.length ∧ E = [(0, .slice oa ts.length ca), (1, .slice ob ts.length cb), (5, I i)] ∧ L = [A, B]) ⟨_, 0, rfl, Nat.zero_le _, rfl, rfl⟩ ?_
 rintro _ _ _ ⟨i, rfl, hi, rfl, rfl⟩
 refine Run.seq ?_
 refine sr ?_
 refine sx 4 ?_
 refine kp [0, 1, 5, 14] rfl ?_
 first | refine Run.if rfl (fun h1 => ?_) (fun h1 => ?_) | refine Run.cond rfl (fun h1 => ?_) (fun h1 => ?_)
 refine Run.skip ?_
 refine Run.seq ?_
 refine Run.block ?_
 refine Run.seq ?_
 refine regionD HM ?_
 obtain ⟨t, ht⟩ := get_ex (xs := ts) (i := i) (by omega)
 refine RunD.rdOpen pk hA (flat_ne (k := 2) (fun _ => rfl) (by decide) ht) fun b o eb hra => ?_
 subst eb
 refine RunD.rdOpen pk hB (flat_ne (k := 2) (fun _ => rfl) (by decide) ht) fun b2 o2 eb2 hrb => ?_
 subst eb2
 refine tk 0 rfl rfl rfl (DetJ.move rfl) ?_
 refine tk 1 rfl rfl rfl (DetJ.move rfl) ?_
 refine tk 2 rfl rfl rfl (DetJ.indexAddr S38 rfl rfl (by omega)) ?_
 refine RunD.takeR 3 rfl rfl kr T83 rfl pk (hra.elem (enc := Tg.c) (fun _ => rfl) ht) rfl ?_
 refine tk 4 rfl rfl rfl (DetJ.move rfl) ?_
 refine tk 5 rfl rfl rfl (DetJ.move rfl) ?_
 refine tk 6 rfl rfl rfl (DetJ.indexAddr S38 rfl rfl (by omega)) ?_
 refine RunD.takeR 7 rfl rfl kr T83 rfl pk (hrb.elem (enc := Tg.c) (fun _ => rfl) ht) rfl ?_
 refine tk 8 rfl rfl rfl (DetJ.neqA EI83 rfl rfl (by rfl)) ?_
 refine RunD.set (v := Bo false) (by simp) ?_
 refine kd [0, 1, 5, 25] rfl ?_
 refine Run.false rfl ?_
 refine Run.skip ?_
 refine Run.region ?_
 refine sx 3 ?_
 exact RunL.next (Keep.sub (kt (ks := [0, 1, 5]) rfl)) _ ⟨_, by omega, i + 1, rfl, by omega, rfl, rfl⟩ gv
 refine Run.exit ?_
 refine sr ?_
 refine asg rfl rfl ?_
 refine kp [4] rfl ?_
 refine Run.ret ?_
 exact ret_one (.tmp rfl .nil) (rfl) gv
theorem c_r12alike (A B : HP) (x y : Ln) (h : x.e = y.e) (hA : RdS A x.ta (x.tags.flatMap Tg.c)) (hB : RdS B y.ta (y.tags.flatMap Tg.c)) (hl : x.tags.length ≤ 140737488355328) : AC Tryz.prog 61 ⟨[.agg ⟨x.c⟩, .agg ⟨y.c⟩]⟩ (stars [A, B]) (Ret (Bo true) [A, B]) := by
 obtain ⟨a1, c1, m1, n1, p1, q1, ta, tc, ts⟩ := x
 obtain ⟨a2, c2, m2, n2, p2, q2, tb, td, us⟩ := y
 simp only [Ln.e, Ln.mk.injEq, and_true, true_and] at h
 obtain ⟨rfl, rfl, rfl, rfl, rfl, rfl, rfl⟩ := h
 refine AC.go Tryz.func61 rfl (Nat.le_of_ble_eq_true rfl) fun β => ?_
 refine sr ?_
 refine RunL.op rfl rfl (OpJ.boxA rfl fun b2 => ?_)
 refine RunL.op rfl rfl (OpJ.boxA rfl fun b3 => ?_)
 refine asg rfl rfl ?_
 refine kp [2, 3] rfl ?_
 refine sr ?_
 refine RunL.op rfl rfl (OpJ.fieldAddr F40_0 rfl ?_)
 first | refine RunL.op rfl rfl (OpJ.loadF T9 rfl pk (by rfl) ?_) | refine RunL.op rfl rfl (OpJ.loadO T9 rfl pk (by assumption) (by rfl) (by exact fun _ => rfl) ?_)
 refine RunL.op rfl rfl (OpJ.fieldAddr F40_0 rfl ?_)
 first | refine RunL.op rfl rfl (OpJ.loadF T9 rfl pk (by rfl) ?_) | refine RunL.op rfl rfl (OpJ.loadO T9 rfl pk (by assumption) (by rfl) (by exact fun _ => rfl) ?_)
 refine RunL.op rfl rfl (OpJ.eqlS rfl rfl ?_)
 refine RunL.set (congrArg Bo (decide_eq_true rfl)) ?_
 refine mvo rfl rfl ?_
 refine RunL.yes rfl rfl rfl rfl (OpJ.fieldAddr F40_1 rfl ?_)
 first | refine RunL.yes rfl rfl rfl rfl (OpJ.loadF T9 rfl pk (by rfl) ?_) | refine RunL.yes rfl rfl rfl rfl (OpJ.loadO T9 rfl pk (by assumption) (by rfl) (by exact fun _ => rfl) ?_)
 refine RunL.yes rfl rfl rfl rfl (OpJ.fieldAddr F40_1 rfl ?_)
 first | refine RunL.yes rfl rfl rfl rfl (OpJ.loadF T9 rfl pk (by rfl) ?_) | refine RunL.yes rfl rfl rfl rfl (OpJ.loadO T9 rfl pk (by assumption) (by rfl) (by exact fun _ => rfl) ?_)
 refine RunL.yes rfl rfl rfl rfl (OpJ.eqlS rfl rfl ?_)
 refine RunL.set (congrArg Bo (decide_eq_true rfl)) ?_
 refine RunL.op rfl rfl (OpJ.pickT rfl rfl ?_)
 refine mvo rfl rfl ?_
 refine RunL.yes rfl rfl rfl rfl (OpJ.fieldAddr F40_4 rfl ?_)
 first | refine RunL.yes rfl rfl rfl rfl (OpJ.loadF T9 rfl pk (by rfl) ?_) | refine RunL.yes rfl rfl rfl rfl (OpJ.loadO T9 rfl pk (by assumption) (by rfl) (by exact fun _ => rfl) ?_)
 refine RunL.yes rfl rfl rfl rfl (OpJ.fieldAddr F40_4 rfl ?_)
 first | refine RunL.yes rfl rfl rfl rfl (OpJ.loadF T9 rfl pk (by rfl) ?_) | refine RunL.yes rfl rfl rfl rfl (OpJ.loadO T9 rfl pk (by assumption) (by rfl) (by exact fun _ => rfl) ?_)
 refine RunL.yes rfl rfl rfl rfl (OpJ.eqlS rfl rfl ?_)
 refine RunL.set (congrArg Bo (decide_eq_true rfl)) ?_
 refine RunL.op rfl rfl (OpJ.pickT rfl rfl ?_)
 refine mvo rfl rfl ?_
 refine RunL.yes rfl rfl rfl rfl (OpJ.fieldAddr F40_5 rfl ?_)
 first | refine RunL.yes rfl rfl rfl rfl (OpJ.loadF T9 rfl pk (by rfl) ?_) | refine RunL.yes rfl rfl rfl rfl (OpJ.loadO T9 rfl pk (by assumption) (by rfl) (by exact fun _ => rfl) ?_)
 refine RunL.yes rfl rfl rfl rfl (OpJ.fieldAddr F40_5 rfl ?_)
 first | refine RunL.yes rfl rfl rfl rfl (OpJ.loadF T9 rfl pk (by rfl) ?_) | refine RunL.yes rfl rfl rfl rfl (OpJ.loadO T9 rfl pk (by assumption) (by rfl) (by exact fun _ => rfl) ?_)
 refine RunL.yes rfl rfl rfl rfl (OpJ.eqlS rfl rfl ?_)
 refine RunL.set (congrArg Bo (decide_eq_true rfl)) ?_
 refine RunL.op rfl rfl (OpJ.pickT rfl rfl ?_)
 refine mvo rfl rfl ?_
 refine RunL.yes rfl rfl rfl rfl (OpJ.fieldAddr F40_6 rfl ?_)
 first | refine RunL.yes rfl rfl rfl rfl (OpJ.loadF T38 rfl pk (by rfl) ?_) | refine RunL.yes rfl rfl rfl rfl (OpJ.loadO T38 rfl pk (by assumption) (by rfl) (by exact fun _ => rfl) ?_)
 refine RunL.yes rfl rfl rfl rfl (OpJ.fieldAddr F40_6 rfl ?_)
 first | refine RunL.yes rfl rfl rfl rfl (OpJ.loadF T38 rfl pk (by rfl) ?_) | refine RunL.yes rfl rfl rfl rfl (OpJ.loadO T38 rfl pk (by assumption) (by rfl) (by exact fun _ => rfl) ?_)
 refine RunL.callG C106 rfl rfl rfl rfl rfl (c_r9Same A B _ _ _ _ ts hA hB hl) tks ?_
 refine RunL.op rfl rfl (OpJ.pickT rfl rfl ?_)
 refine asg rfl rfl ?_
 refine kp [4] rfl ?_
 refine Run.ret ?_
 exact ret_one (.tmp rfl .nil) (rfl) gv
theorem c_r12line (A B : HP) (x y : Ln) (h : x.e = y.e) (hA : RdS A x.ta (x.tags.flatMap Tg.c)) (hB : RdS B y.ta (y.tags.flatMap Tg.c)) (hl : x.tags.length ≤ 140737488355328) : AC Tryz.prog 54 ⟨[.agg ⟨x.c⟩, .agg ⟨y.c⟩]⟩ (stars [A, B]) (Ret (Bo true) [A, B]) := by
 have h0 := c_r12alike A B x y h hA hB hl
 obtain ⟨a1, c1, m1, n1, p1, q1, ta, tc, ts⟩ := x
 obtain ⟨a2, c2, m2, n2, p2, q2, tb, td, us⟩ := y
 simp only [Ln.e, Ln.mk.injEq, and_true, true_and] at h
 obtain ⟨rfl, rfl, rfl, rfl, rfl, rfl, rfl⟩ := h
 refine AC.go Tryz.func54 rfl (Nat.le_of_ble_eq_true rfl) fun β => ?_
 refine sr ?_
 refine RunL.op rfl rfl (OpJ.boxA rfl fun b2 => ?_)
 refine RunL.op rfl rfl (OpJ.boxA rfl fun b3 => ?_)
 refine asg rfl rfl ?_
 refine kp [2, 3] rfl ?_
 refine sr ?_
 first | refine RunL.op rfl rfl (OpJ.loadW T40 rfl pk (by rfl) ?_) | refine RunL.op rfl rfl (OpJ.loadP T40 rfl pk (by simp) ?_) | refine RunL.op rfl rfl (OpJ.loadE T40 rfl pk (by assumption) (by exact fun _ => rfl) rfl (by decide) ?_)
 first | refine RunL.op rfl rfl (OpJ.loadW T40 rfl pk (by rfl) ?_) | refine RunL.op rfl rfl (OpJ.loadP T40 rfl pk (by simp) ?_) | refine RunL.op rfl rfl (OpJ.loadE T40 rfl pk (by assumption) (by exact fun _ => rfl) rfl (by decide) ?_)
 refine RunL.call C61 rfl rfl rfl h0 tks ?_
 refine mvo rfl rfl ?_
 refine RunL.yes rfl rfl rfl rfl (OpJ.fieldAddr F40_2 rfl ?_)
 first | refine RunL.yes rfl rfl rfl rfl (OpJ.loadF T3 rfl pk (by rfl) ?_) | refine RunL.yes rfl rfl rfl rfl (OpJ.loadO T3 rfl pk (by assumption) (by rfl) (by exact fun _ => rfl) ?_)
 refine RunL.yes rfl rfl rfl rfl (OpJ.fieldAddr F40_2 rfl ?_)
 first | refine RunL.yes rfl rfl rfl rfl (OpJ.loadF T3 rfl pk (by rfl) ?_) | refine RunL.yes rfl rfl rfl rfl (OpJ.loadO T3 rfl pk (by assumption) (by rfl) (by exact fun _ => rfl) ?_)
 refine RunL.yes rfl rfl rfl rfl (OpJ.eql rfl rfl ?_)
 refine RunL.set (congrArg Bo (decide_eq_true rfl)) ?_
 refine RunL.op rfl rfl (OpJ.pickT rfl rfl ?_)
 refine mvo rfl rfl ?_
 refine RunL.yes rfl rfl rfl rfl (OpJ.fieldAddr F40_3 rfl ?_)
 first | refine RunL.yes rfl rfl rfl rfl (OpJ.loadF T3 rfl pk (by rfl) ?_) | refine RunL.yes rfl rfl rfl rfl (OpJ.loadO T3 rfl pk (by assumption) (by rfl) (by exact fun _ => rfl) ?_)
 refine RunL.yes rfl rfl rfl rfl (OpJ.fieldAddr F40_3 rfl ?_)
 first | refine RunL.yes rfl rfl rfl rfl (OpJ.loadF T3 rfl pk (by rfl) ?_) | refine RunL.yes rfl rfl rfl rfl (OpJ.loadO T3 rfl pk (by assumption) (by rfl) (by exact fun _ => rfl) ?_)
 refine RunL.yes rfl rfl rfl rfl (OpJ.eql rfl rfl ?_)
 refine RunL.set (congrArg Bo (decide_eq_true rfl)) ?_
 refine RunL.op rfl rfl (OpJ.pickT rfl rfl ?_)
 refine asg rfl rfl ?_
 refine kp [4] rfl ?_
 refine Run.ret ?_
 exact ret_one (.tmp rfl .nil) (rfl) gv
theorem c_r12lines (A B : HP) (oa ob : Option Addr) (ca cb : Nat) (xs ys : List Ln) (h : xs.map Ln.e = ys.map Ln.e) (hA : RdS A oa (xs.flatMap Ln.c)) (hB : RdS B ob (ys.flatMap Ln.c)) (hA2 : ∀ x ∈ xs, RdS A x.ta (x.tags.flatMap Tg.c)) (hB2 : ∀ y ∈ ys, RdS B y.ta (y.tags.flatMap Tg.c)) (hl : xs.length ≤ 140737488355328) (ht : ∀ x ∈ xs, x.tags.length ≤ 140737488355328) : AC Tryz.prog 26 ⟨[.slice oa xs.length ca, .slice ob ys.length cb]⟩ (stars [A, B]) (Ret (Bo true) [A, B]) := by
 have hxy := map_e_len h
 refine AC.go Tryz.func26 rfl (Nat.le_of_ble_eq_true rfl) fun β => ?_
 refine sr ?_
 refine asg rfl rfl ?_
 refine kp [0, 1] rfl ?_
 refine Run.seq ?_
 refine sr ?_
 refine sx 5 ?_
 refine RunL.set (congrArg Bo (decide_eq_false (fun hq => hq (by omega)))) ?_
 refine kp [0, 1, 10] rfl ?_
 refine Run.false rfl ?_
 refine Run.skip ?_
 refine Run.seq ?_
 refine sr ?_
 refine asg rfl rfl ?_
 refine kp [0, 1, 5] rfl ?_
 refine Run.block ?_
 refine Run.loop (fun mm E L => ∃ i : Nat, mm = xs.length - i ∧ i ≤ xs.length ∧ E = [(0, .slice oa xs.length ca), (1, .slice ob ys.length cb), (5, I i)] ∧ L = [A, B]) ⟨_, 0, rfl, Nat.zero_le _, rfl, rfl⟩ ?_
 rintro _ _ _ ⟨i, rfl, hi, rfl, rfl⟩
 refine Run.seq ?_
 refine sr ?_
 refine sx 4 ?_
 refine kp [0, 1, 5, 14] rfl ?_
 first | refine Run.if rfl (fun h1 => ?_) (fun h1 => ?_) | refine Run.cond rfl (fun h1 => ?_) (fun h1 => ?_)
 refine Run.skip ?_
 refine Run.seq ?_
 refine Run.block ?_
 refine Run.seq ?_
 refine regionD HM ?_
 obtain ⟨x, hx⟩ := get_ex (xs := xs) (i := i) (by omega)
 obtain ⟨y, hy⟩ := get_ex (xs := ys) (i := i) (by omega)
 have hxm := List.mem_of_getElem? hx
 have hym := List.mem_of_getElem? hy
 refine RunD.rdOpen pk hA (flat_ne (k := 7) (fun _ => rfl) (by decide) hx) fun b o eb hra => ?_
 subst eb
 refine RunD.rdOpen pk hB (flat_ne (k := 7) (fun _ => rfl) (by decide) hy) fun b2 o2 eb2 hrb => ?_
 subst eb2
 refine tk 0 rfl rfl rfl (DetJ.move rfl) ?_
 refine tk 1 rfl rfl rfl (DetJ.move rfl) ?_
 refine tk 2 rfl rfl rfl (DetJ.indexAddr S28 rfl rfl (by omega)) ?_
 refine RunD.takeR 3 rfl rfl kr T40 rfl pk (hra.elem (enc := Ln.c) (fun _ => rfl) hx) rfl ?_
 refine tk 4 rfl rfl rfl (DetJ.move rfl) ?_
 refine tk 5 rfl rfl rfl (DetJ.move rfl) ?_
 refine tk 6 rfl rfl rfl (DetJ.indexAddr S28 rfl rfl (by omega)) ?_
 refine RunD.takeR 7 rfl rfl kr T40 rfl pk (hrb.elem (enc := Ln.c) (fun _ => rfl) hy) rfl ?_
 refine RunD.op 8 [false, false, false, false, false, false, false, false] rfl rfl rfl kr kr (OpJ.callRet C54 rfl rfl (c_r12line A B x y (map_e_get h hx hy) (hA2 x hxm) (hB2 y hym) (ht x hxm)) tks ⟨po, ?_⟩)
 refine tk 9 rfl rfl rfl (DetJ.not rfl) ?_
 refine kd [0, 1, 5, 26] rfl ?_
 refine Run.false rfl ?_
 refine Run.skip ?_
 refine Run.region ?_
 refine sx 3 ?_
 exact RunL.next (Keep.sub (kt (ks := [0, 1, 5]) rfl)) _ ⟨_, by omega, i + 1, rfl, by omega, rfl, rfl⟩ gv
 refine Run.exit ?_
 refine sr ?_
 refine asg rfl rfl ?_
 refine kp [4] rfl ?_
 refine Run.ret ?_
 exact ret_one (.tmp rfl .nil) (rfl) gv
theorem c_r12Same (A B : HP) (x y : En) (h : x.e = y.e) (hA : RdS A x.la (x.lines.flatMap Ln.c)) (hB : RdS B y.la (y.lines.flatMap Ln.c)) (hA2 : ∀ z ∈ x.lines, RdS A z.ta (z.tags.flatMap Tg.c)) (hB2 : ∀ z ∈ y.lines, RdS B z.ta (z.tags.flatMap Tg.c)) (hl : x.lines.length ≤ 140737488355328) (ht : ∀ z ∈ x.lines, z.tags.length ≤ 140737488355328) : AC Tryz.prog 11 ⟨[.agg ⟨x.c⟩, .agg ⟨y.c⟩]⟩ (stars [A, B]) (Ret (Bo true) [A, B]) := by
 obtain ⟨n1, e1, k1, v1, d1, r1, w1, q1, la, lc, ls⟩ := x
 obtain ⟨n2, e2, k2, v2, d2, r2, w2, q2, lb, ld, ms⟩ := y
 simp only [En.e, En.mk.injEq, and_true, true_and] at h
 obtain ⟨rfl, rfl, rfl, rfl, rfl, rfl, rfl, rfl, h⟩ := h
 refine AC.go Tryz.func11 rfl (Nat.le_of_ble_eq_true rfl) fun β => ?_
 refine sr ?_
 refine RunL.op rfl rfl (OpJ.boxA rfl fun b2 => ?_)
 refine RunL.op rfl rfl (OpJ.boxA rfl fun b3 => ?_)
 refine asg rfl rfl ?_
 refine kp [2, 3] rfl ?_
 refine sr ?_
 refine RunL.op rfl rfl (OpJ.fieldAddr F30_0 rfl ?_)
 first | refine RunL.op rfl rfl (OpJ.loadF T3 rfl pk (by rfl) ?_) | refine RunL.op rfl rfl (OpJ.loadO T3 rfl pk (by assumption) (by rfl) (by exact fun _ => rfl) ?_)
 refine RunL.op rfl rfl (OpJ.fieldAddr F30_0 rfl ?_)
 first | refine RunL.op rfl rfl (OpJ.loadF T3 rfl pk (by rfl) ?_) | refine RunL.op rfl rfl (OpJ.loadO T3 rfl pk (by assumption) (by rfl) (by exact fun _ => rfl) ?_)
 refine RunL.op rfl rfl (OpJ.eql rfl rfl ?_)
 refine RunL.set (congrArg Bo (decide_eq_true rfl)) ?_
 refine mvo rfl rfl ?_
 refine RunL.yes rfl rfl rfl rfl (OpJ.fieldAddr F30_1 rfl ?_)
 first | refine RunL.yes rfl rfl rfl rfl (OpJ.loadF T9 rfl pk (by rfl) ?_) | refine RunL.yes rfl rfl rfl rfl (OpJ.loadO T9 rfl pk (by assumption) (by rfl) (by exact fun _ => rfl) ?_)
 refine RunL.yes rfl rfl rfl rfl (OpJ.fieldAddr F30_1 rfl ?_)
 first | refine RunL.yes rfl rfl rfl rfl (OpJ.loadF T9 rfl pk (by rfl) ?_) | refine RunL.yes rfl rfl rfl rfl (OpJ.loadO T9 rfl pk (by assumption) (by rfl) (by exact fun _ => rfl) ?_)
 refine RunL.yes rfl rfl rfl rfl (OpJ.eqlS rfl rfl ?_)
 refine RunL.set (congrArg Bo (decide_eq_true rfl)) ?_
 refine RunL.op rfl rfl (OpJ.pickT rfl rfl ?_)
 refine mvo rfl rfl ?_
 refine RunL.yes rfl rfl rfl rfl (OpJ.fieldAddr F30_2 rfl ?_)
 first | refine RunL.yes rfl rfl rfl rfl (OpJ.loadF T3 rfl pk (by rfl) ?_) | refine RunL.yes rfl rfl rfl rfl (OpJ.loadO T3 rfl pk (by assumption) (by rfl) (by exact fun _ => rfl) ?_)
 refine RunL.yes rfl rfl rfl rfl (OpJ.fieldAddr F30_2 rfl ?_)
 first | refine RunL.yes rfl rfl rfl rfl (OpJ.loadF T3 rfl pk (by rfl) ?_) | refine RunL.yes rfl rfl rfl rfl (OpJ.loadO T3 rfl pk (by assumption) (by rfl) (by exact fun _ => rfl) ?_)
 refine RunL.yes rfl rfl rfl rfl (OpJ.eql rfl rfl ?_)
 refine RunL.set (congrArg Bo (decide_eq_true rfl)) ?_
 refine RunL.op rfl rfl (OpJ.pickT rfl rfl ?_)
 refine mvo rfl rfl ?_
 refine RunL.yes rfl rfl rfl rfl (OpJ.fieldAddr F30_3 rfl ?_)
 first | refine RunL.yes rfl rfl rfl rfl (OpJ.loadF T3 rfl pk (by rfl) ?_) | refine RunL.yes rfl rfl rfl rfl (OpJ.loadO T3 rfl pk (by assumption) (by rfl) (by exact fun _ => rfl) ?_)
 refine RunL.yes rfl rfl rfl rfl (OpJ.fieldAddr F30_3 rfl ?_)
 first | refine RunL.yes rfl rfl rfl rfl (OpJ.loadF T3 rfl pk (by rfl) ?_) | refine RunL.yes rfl rfl rfl rfl (OpJ.loadO T3 rfl pk (by assumption) (by rfl) (by exact fun _ => rfl) ?_)
 refine RunL.yes rfl rfl rfl rfl (OpJ.eql rfl rfl ?_)
 refine RunL.set (congrArg Bo (decide_eq_true rfl)) ?_
 refine RunL.op rfl rfl (OpJ.pickT rfl rfl ?_)
 refine mvo rfl rfl ?_
 refine RunL.yes rfl rfl rfl rfl (OpJ.fieldAddr F30_4 rfl ?_)
 first | refine RunL.yes rfl rfl rfl rfl (OpJ.loadF T3 rfl pk (by rfl) ?_) | refine RunL.yes rfl rfl rfl rfl (OpJ.loadO T3 rfl pk (by assumption) (by rfl) (by exact fun _ => rfl) ?_)
 refine RunL.yes rfl rfl rfl rfl (OpJ.fieldAddr F30_4 rfl ?_)
 first | refine RunL.yes rfl rfl rfl rfl (OpJ.loadF T3 rfl pk (by rfl) ?_) | refine RunL.yes rfl rfl rfl rfl (OpJ.loadO T3 rfl pk (by assumption) (by rfl) (by exact fun _ => rfl) ?_)
 refine RunL.yes rfl rfl rfl rfl (OpJ.eql rfl rfl ?_)
 refine RunL.set (congrArg Bo (decide_eq_true rfl)) ?_
 refine RunL.op rfl rfl (OpJ.pickT rfl rfl ?_)
 refine mvo rfl rfl ?_
 refine RunL.yes rfl rfl rfl rfl (OpJ.fieldAddr F30_5 rfl ?_)
 first | refine RunL.yes rfl rfl rfl rfl (OpJ.loadF T9 rfl pk (by rfl) ?_) | refine RunL.yes rfl rfl rfl rfl (OpJ.loadO T9 rfl pk (by assumption) (by rfl) (by exact fun _ => rfl) ?_)
 refine RunL.yes rfl rfl rfl rfl (OpJ.fieldAddr F30_5 rfl ?_)
 first | refine RunL.yes rfl rfl rfl rfl (OpJ.loadF T9 rfl pk (by rfl) ?_) | refine RunL.yes rfl rfl rfl rfl (OpJ.loadO T9 rfl pk (by assumption) (by rfl) (by exact fun _ => rfl) ?_)
 refine RunL.yes rfl rfl rfl rfl (OpJ.eqlS rfl rfl ?_)
 refine RunL.set (congrArg Bo (decide_eq_true rfl)) ?_
 refine RunL.op rfl rfl (OpJ.pickT rfl rfl ?_)
 refine mvo rfl rfl ?_
 refine RunL.yes rfl rfl rfl rfl (OpJ.fieldAddr F30_6 rfl ?_)
 first | refine RunL.yes rfl rfl rfl rfl (OpJ.loadF T9 rfl pk (by rfl) ?_) | refine RunL.yes rfl rfl rfl rfl (OpJ.loadO T9 rfl pk (by assumption) (by rfl) (by exact fun _ => rfl) ?_)
 refine RunL.yes rfl rfl rfl rfl (OpJ.fieldAddr F30_6 rfl ?_)
 first | refine RunL.yes rfl rfl rfl rfl (OpJ.loadF T9 rfl pk (by rfl) ?_) | refine RunL.yes rfl rfl rfl rfl (OpJ.loadO T9 rfl pk (by assumption) (by rfl) (by exact fun _ => rfl) ?_)
 refine RunL.yes rfl rfl rfl rfl (OpJ.eqlS rfl rfl ?_)
 refine RunL.set (congrArg Bo (decide_eq_true rfl)) ?_
 refine RunL.op rfl rfl (OpJ.pickT rfl rfl ?_)
 refine mvo rfl rfl ?_
 refine RunL.yes rfl rfl rfl rfl (OpJ.fieldAddr F30_7 rfl ?_)
 first | refine RunL.yes rfl rfl rfl rfl (OpJ.loadF T3 rfl pk (by rfl) ?_) | refine RunL.yes rfl rfl rfl rfl (OpJ.loadO T3 rfl pk (by assumption) (by rfl) (by exact fun _ => rfl) ?_)
 refine RunL.yes rfl rfl rfl rfl (OpJ.fieldAddr F30_7 rfl ?_)
 first | refine RunL.yes rfl rfl rfl rfl (OpJ.loadF T3 rfl pk (by rfl) ?_) | refine RunL.yes rfl rfl rfl rfl (OpJ.loadO T3 rfl pk (by assumption) (by rfl) (by exact fun _ => rfl) ?_)
 refine RunL.yes rfl rfl rfl rfl (OpJ.eql rfl rfl ?_)
 refine RunL.set (congrArg Bo (decide_eq_true rfl)) ?_
 refine RunL.op rfl rfl (OpJ.pickT rfl rfl ?_)
 refine mvo rfl rfl ?_
 refine RunL.yes rfl rfl rfl rfl (OpJ.fieldAddr F30_8 rfl ?_)
 first | refine RunL.yes rfl rfl rfl rfl (OpJ.loadF T28 rfl pk (by rfl) ?_) | refine RunL.yes rfl rfl rfl rfl (OpJ.loadO T28 rfl pk (by assumption) (by rfl) (by exact fun _ => rfl) ?_)
 refine RunL.yes rfl rfl rfl rfl (OpJ.fieldAddr F30_8 rfl ?_)
 first | refine RunL.yes rfl rfl rfl rfl (OpJ.loadF T28 rfl pk (by rfl) ?_) | refine RunL.yes rfl rfl rfl rfl (OpJ.loadO T28 rfl pk (by assumption) (by rfl) (by exact fun _ => rfl) ?_)
 refine RunL.callG C26 rfl rfl rfl rfl rfl (c_r12lines A B _ _ _ _ ls ms h hA hB hA2 hB2 hl ht) tks ?_
 refine RunL.op rfl rfl (OpJ.pickT rfl rfl ?_)
 refine asg rfl rfl ?_
 refine kp [4] rfl ?_
 refine Run.ret ?_
 exact ret_one (.tmp rfl .nil) (rfl) gv
theorem c_letter (c : Int) : AC Tryz.prog 144 ⟨[.int .u8 c]⟩ (stars []) (Ret (Bo (letterB c)) []) := by
 refine AC.go Tryz.func144 rfl (Nat.le_of_ble_eq_true rfl) fun β => ?_
 refine sr ?_
 refine asg rfl rfl ?_
 refine kp [0] rfl ?_
 refine sr ?_
 refine sx 3 ?_
 first | refine RunL.splitP (t := 5) rfl (fun g1 => ?_) (fun g1 => ?_) | refine RunL.split (t := 5) rfl (fun g1 => ?_) (fun g1 => ?_)
 refine sx 4 ?_
 first | refine RunL.splitP (t := 9) rfl (fun g2 => ?_) (fun g2 => ?_) | refine RunL.split (t := 9) rfl (fun g2 => ?_) (fun g2 => ?_)
 refine sx 12 ?_
 refine kp [2] rfl ?_
 refine Run.ret ?_
 exact ret_one (.tmp rfl .nil) (by first | (simp [tup, letterB,  *]; done) | (exfalso; omega)) gv
 refine sx 3 ?_
 first | refine RunL.splitP (t := 12) rfl (fun g3 => ?_) (fun g3 => ?_) | refine RunL.split (t := 12) rfl (fun g3 => ?_) (fun g3 => ?_)
 refine sx 5 ?_
 first | refine RunL.splitP (t := 17) rfl (fun g4 => ?_) (fun g4 => ?_) | refine RunL.split (t := 17) rfl (fun g4 => ?_) (fun g4 => ?_)
 refine sx 4 ?_
 refine kp [2] rfl ?_
 refine Run.ret ?_
 exact ret_one (.tmp rfl .nil) (by first | (simp [tup, letterB,  *]; done) | (exfalso; omega)) gv
 refine sx 4 ?_
 refine kp [2] rfl ?_
 refine Run.ret ?_
 exact ret_one (.tmp rfl .nil) (by first | (simp [tup, letterB,  *]; done) | (exfalso; omega)) gv
 refine sx 9 ?_
 refine kp [2] rfl ?_
 refine Run.ret ?_
 exact ret_one (.tmp rfl .nil) (by first | (simp [tup, letterB,  *]; done) | (exfalso; omega)) gv
 refine sx 7 ?_
 first | refine RunL.splitP (t := 12) rfl (fun g5 => ?_) (fun g5 => ?_) | refine RunL.split (t := 12) rfl (fun g5 => ?_) (fun g5 => ?_)
 refine sx 5 ?_
 first | refine RunL.splitP (t := 17) rfl (fun g6 => ?_) (fun g6 => ?_) | refine RunL.split (t := 17) rfl (fun g6 => ?_) (fun g6 => ?_)
 refine sx 4 ?_
 refine kp [2] rfl ?_
 refine Run.ret ?_
 exact ret_one (.tmp rfl .nil) (by first | (simp [tup, letterB,  *]; done) | (exfalso; omega)) gv
 refine sx 4 ?_
 refine kp [2] rfl ?_
 refine Run.ret ?_
 exact ret_one (.tmp rfl .nil) (by first | (simp [tup, letterB,  *]; done) | (exfalso; omega)) gv
 refine sx 9 ?_
 refine kp [2] rfl ?_
 refine Run.ret ?_
 exact ret_one (.tmp rfl .nil) (by first | (simp [tup, letterB,  *]; done) | (exfalso; omega)) gv
theorem c_digit (c : Int) : AC Tryz.prog 145 ⟨[.int .u8 c]⟩ (stars []) (Ret (Bo (digitB c)) []) := by
 refine AC.go Tryz.func145 rfl (Nat.le_of_ble_eq_true rfl) fun β => ?_
 refine sr ?_
 refine asg rfl rfl ?_
 refine kp [0] rfl ?_
 refine sr ?_
 refine sx 3 ?_
 first | refine RunL.splitP (t := 5) rfl (fun g1 => ?_) (fun g1 => ?_) | refine RunL.split (t := 5) rfl (fun g1 => ?_) (fun g1 => ?_)
 refine sx 4 ?_
 refine kp [2] rfl ?_
 refine Run.ret ?_
 exact ret_one (.tmp rfl .nil) (by first | (simp [tup, digitB,  *]; done) | (exfalso; omega)) gv
 refine sx 4 ?_
 refine kp [2] rfl ?_
 refine Run.ret ?_
 exact ret_one (.tmp rfl .nil) (by first | (simp [tup, digitB,  *]; done) | (exfalso; omega)) gv
theorem c_code1 (c : Int) : AC Tryz.prog 143 ⟨[.int .u8 c]⟩ (stars []) (Ret (Bo (letterB c || digitB c)) []) := by
 refine AC.go Tryz.func143 rfl (Nat.le_of_ble_eq_true rfl) fun β => ?_
 refine sr ?_
 refine asg rfl rfl ?_
 refine kp [0] rfl ?_
 refine sr ?_
 refine mvo rfl rfl ?_
 refine RunL.call C144 rfl rfl rfl (c_letter _) .nil ?_
 refine mvo rfl rfl ?_
 first | refine RunL.splitP (t := 5) rfl (fun g1 => ?_) (fun g1 => ?_) | refine RunL.split (t := 5) rfl (fun g1 => ?_) (fun g1 => ?_)
 refine sx 4 ?_
 refine kp [2] rfl ?_
 refine Run.ret ?_
 exact ret_one (.tmp rfl .nil) (by first | (simp [tup,  *]; done) | (exfalso; omega)) gv
 refine sx 1 ?_
 refine RunL.callG C145 rfl rfl rfl rfl rfl (c_digit _) .nil ?_
 refine sx 2 ?_
 refine kp [2] rfl ?_
 refine Run.ret ?_
 exact ret_one (.tmp rfl .nil) (by first | (simp [tup,  *]; done) | (exfalso; omega)) gv
theorem c_printable (c : Int) : AC Tryz.prog 175 ⟨[.int .u8 c]⟩ (stars []) (Ret (Bo (decide (32 ≤ c ∧ c ≤ 126))) []) := by
 refine AC.go Tryz.func175 rfl (Nat.le_of_ble_eq_true rfl) fun β => ?_
 refine sr ?_
 refine asg rfl rfl ?_
 refine kp [0] rfl ?_
 refine sr ?_
 refine sx 3 ?_
 first | refine RunL.splitP (t := 5) rfl (fun g1 => ?_) (fun g1 => ?_) | refine RunL.split (t := 5) rfl (fun g1 => ?_) (fun g1 => ?_)
 refine sx 4 ?_
 refine kp [2] rfl ?_
 refine Run.ret ?_
 exact ret_one (.tmp rfl .nil) (by first | (simp [tup,  *]; done) | (exfalso; omega)) gv
 refine sx 4 ?_
 refine kp [2] rfl ?_
 refine Run.ret ?_
 exact ret_one (.tmp rfl .nil) (by first | (simp [tup,  *]; done) | (exfalso; omega)) gv
theorem c_every (fid : Nat) (p : UInt8 → Bool) (s : ByteArray) (hs : (s.size : Int) ≤ 1000) (C : CI Tryz.prog fid) (hf : ∀ u : UInt8, AC Tryz.prog fid ⟨[.int .u8 (u.toNat : Int)]⟩ (stars []) (Ret (Bo (p u)) [])) : AC Tryz.prog 142 ⟨[St s, .func (.func fid) #[] #[]]⟩ (stars []) (Ret (Bo (s.data.toList.all p)) []) := by
 refine AC.go Tryz.func142 rfl (Nat.le_of_ble_eq_true rfl) fun β => ?_
 refine sr ?_
 refine asg rfl rfl ?_
 refine kp [0, 1] rfl ?_
 refine Run.seq ?_
 refine sr ?_
 refine sx 3 ?_
 refine kp [0, 1, 7, 8] rfl ?_
 refine Run.block ?_
 refine Run.loop (fun mm E L => ∃ i : Nat, mm = s.size - i ∧ i ≤ s.size ∧ (∀ (j : Nat) u, j < i → s[j]? = some u → p u = true) ∧ E = [(0, St s), (1, .func (.func fid) #[] #[]), (7, I s.size), (8, I i)] ∧ L = []) ⟨_, 0, rfl, Nat.zero_le _, fun _ _ h => by omega, rfl, rfl⟩ ?_
 rintro _ _ _ ⟨i, rfl, hi, hI0, rfl, rfl⟩
 refine sr ?_
 refine sx 1 ?_
 refine kp [0, 1, 7, 8, 9] rfl ?_
 refine Run.seq ?_
 first | refine Run.if rfl (fun h1 => ?_) (fun h1 => ?_) | refine Run.cond rfl (fun h1 => ?_) (fun h1 => ?_)
 refine Run.skip ?_
 refine Run.seq ?_
 refine Run.block ?_
 refine sr ?_
 refine sx 2 ?_
 refine kp [0, 1, 5, 7, 8] rfl ?_
 refine sr ?_
 obtain ⟨u, hu⟩ := byte_ex (s := s) (i := i) (by omega)
 refine sx 3 ?_
 refine RunL.op rfl rfl (OpJ.indexS U9 rfl rfl (by omega) hu ?_)
 refine RunL.call C rfl rfl rfl (hf u) .nil ?_
 refine RunL.op rfl rfl (OpJ.not rfl ?_)
 refine kp [0, 1, 7, 8, 16] rfl ?_
 first | refine Run.if rfl (fun h2 => ?_) (fun h2 => ?_) | refine Run.cond rfl (fun h2 => ?_) (fun h2 => ?_)
 refine sr ?_
 refine asg rfl rfl ?_
 refine kp [4] rfl ?_
 refine Run.ret ?_
 exact ret_one (.tmp rfl .nil) (congrArg Bo (all_false hu (by simpa using h2)).symm) gv
 refine Run.skip ?_
 refine Run.region ?_
 refine sx 2 ?_
 exact RunL.next (Keep.sub (kt (ks := [0, 1, 7, 8]) rfl)) _ ⟨_, by omega, i + 1, rfl, by omega, fun j v hj hv => (by rcases Nat.lt_succ_iff_lt_or_eq.1 hj with h | rfl; exact hI0 j v h hv; rw [hu] at hv; cases hv; simpa using h2), rfl, rfl⟩ gv
 refine Run.exit ?_
 refine sr ?_
 refine asg rfl rfl ?_
 refine kp [4] rfl ?_
 refine Run.ret ?_
 exact ret_one (.tmp rfl .nil) (congrArg Bo (all_true fun j u hj hu => hI0 j u (by omega) hu).symm) gv
end
theorem c_everyC (s : ByteArray) (hs : (s.size : Int) ≤ 1000) : AC Tryz.prog 142 ⟨[St s, .func (.func 143) #[] #[]]⟩ (stars []) (Ret (Bo (everyB s)) []) := by
  have e : everyB s = s.data.toList.all byteOk := by with_unfolding_all rfl
  rw [e]; exact c_every 143 byteOk s hs (CI.of (by kernel_rfl)) fun u => c_code1 _
theorem c_everyP (s : ByteArray) (hs : (s.size : Int) ≤ 1000) : AC Tryz.prog 142 ⟨[St s, .func (.func 175) #[] #[]]⟩ (stars []) (Ret (Bo (s.data.toList.all prB)) []) := c_every 175 prB s hs (CI.of (by kernel_rfl)) fun u => c_printable _
section
attribute [local irreducible] OpJ RunL Run RunD DetJ pt own star Rd RdS
theorem c_Code (s : ByteArray) : AC Tryz.prog 111 ⟨[St s]⟩ (stars []) (Ret (Bo (codeB s)) []) := by
 refine AC.go Tryz.func111 rfl (Nat.le_of_ble_eq_true rfl) fun β => ?_
 refine sr ?_
 refine asg rfl rfl ?_
 refine kp [0] rfl ?_
 refine sr ?_
 refine sx 3 ?_
 first | refine RunL.splitP (t := 5) rfl (fun g1 => ?_) (fun g1 => ?_) | refine RunL.split (t := 5) rfl (fun g1 => ?_) (fun g1 => ?_)
 refine sx 5 ?_
 first | refine RunL.splitP (t := 10) rfl (fun g2 => ?_) (fun g2 => ?_) | refine RunL.split (t := 10) rfl (fun g2 => ?_) (fun g2 => ?_)
 refine sx 1 ?_
 refine RunL.callG C142 rfl rfl rfl rfl rfl (c_everyC _ (by omega)) .nil ?_
 refine sx 2 ?_
 refine kp [2] rfl ?_
 refine Run.ret ?_
 exact ret_one (.tmp rfl .nil) (by first | (simp [tup, codeB,  *]; done) | (exfalso; omega)) gv
 refine sx 4 ?_
 refine kp [2] rfl ?_
 refine Run.ret ?_
 exact ret_one (.tmp rfl .nil) (by first | (simp [tup, codeB,  *]; done) | (exfalso; omega)) gv
 refine sx 9 ?_
 refine kp [2] rfl ?_
 refine Run.ret ?_
 exact ret_one (.tmp rfl .nil) (by first | (simp [tup, codeB,  *]; done) | (exfalso; omega)) gv
theorem c_Plain (s : ByteArray) : AC Tryz.prog 133 ⟨[St s]⟩ (stars []) (Ret (Bo (plainB s)) []) := by
 refine AC.go Tryz.func133 rfl (Nat.le_of_ble_eq_true rfl) fun β => ?_
 refine sr ?_
 refine asg rfl rfl ?_
 refine kp [0] rfl ?_
 refine sr ?_
 refine sx 4 ?_
 first | refine RunL.splitP (t := 6) rfl (fun g1 => ?_) (fun g1 => ?_) | refine RunL.split (t := 6) rfl (fun g1 => ?_) (fun g1 => ?_)
 refine sx 1 ?_
 refine RunL.callG C142 rfl rfl rfl rfl rfl (c_everyP _ (by omega)) .nil ?_
 refine sx 2 ?_
 refine kp [2] rfl ?_
 refine Run.ret ?_
 exact ret_one (.tmp rfl .nil) (by first | (simp [tup, plainB,  *]; done) | (exfalso; omega)) gv
 refine sx 4 ?_
 refine kp [2] rfl ?_
 refine Run.ret ?_
 exact ret_one (.tmp rfl .nil) (by first | (simp [tup, plainB,  *]; done) | (exfalso; omega)) gv
theorem c_Cur (s : ByteArray) (hs : (s.size : Int) ≤ 9223372036854775807) : AC Tryz.prog 47 ⟨[St s]⟩ (stars []) (Ret (Bo (curB s)) []) := by
 refine AC.go Tryz.func47 rfl (Nat.le_of_ble_eq_true rfl) fun β => ?_
 refine sr ?_
 refine asg rfl rfl ?_
 refine kp [0] rfl ?_
 refine sr ?_
 refine asg rfl rfl ?_
 refine kp [0, 3] rfl ?_
 refine Run.seq ?_
 refine sr ?_
 refine mvo rfl rfl ?_
 refine RunL.op rfl rfl (OpJ.rangeS U9 rfl fun r7 => ?_)
 refine kp [3, 7] rfl ?_
 refine Run.block ?_
 refine Run.loop (fun mm E L => ∃ i : Nat, mm = s.size - i ∧ i ≤ s.size ∧ (∀ (j : Nat) u, j < i → s[j]? = some u → capB u = true) ∧ E = [(3, I i), (7, .pointer (some ⟨r7, 0, none⟩))] ∧ L = [pt r7 (.stringIter s i)]) ⟨_, 0, rfl, Nat.zero_le _, fun _ _ h => by omega, rfl, rfl⟩ ?_
 rintro _ _ _ ⟨i, rfl, hi, hI0, rfl, rfl⟩
 refine sr ?_
 refine RunL.op rfl rfl (OpJ.nextS rfl pk (fun j => up) (fun hge => ?_) (fun hlt => ?_))
 skip
 refine sx 1 ?_
 refine kp [3, 7, 8, 9] rfl ?_
 refine Run.seq ?_
 refine Run.false rfl ?_
 refine Run.exit ?_
 refine sr ?_
 refine sx 3 ?_
 refine kp [2] rfl ?_
 refine Run.ret ?_
 exact ret_one (.tmp rfl .nil) (by unfold curB; rw [all_true fun j u hj hu => hI0 j u (by omega) hu, Bool.and_true]; exact congrArg Bo (decide_eq_decide.2 (by omega))) gv
 obtain ⟨u, hu⟩ := byte_ex (s := s) (i := i) (by omega)
 have hcd := cap_dec hu
 refine sx 1 ?_
 refine kp [3, 7, 8, 9] rfl ?_
 refine Run.seq ?_
 refine Run.true rfl ?_
 refine Run.skip ?_
 refine Run.block ?_
 refine sr ?_
 refine sx 2 ?_
 refine kp [3, 5, 7] rfl ?_
 refine Run.seq ?_
 refine sr ?_
 refine sx 3 ?_
 first | refine RunL.splitP (t := 13) rfl (fun g1 => ?_) (fun g1 => ?_) | refine RunL.split (t := 13) rfl (fun g1 => ?_) (fun g1 => ?_)
 refine sx 3 ?_
 refine kp [3, 7, 16] rfl ?_
 refine Run.true rfl ?_
 refine sr ?_
 refine asg rfl rfl ?_
 refine kp [2] rfl ?_
 refine Run.ret ?_
 exact ret_one (.tmp rfl .nil) (by have hc := (hcd.resolve_left fun h => by { have h2 := h.1; have h3 : (Utf8.decode s i).1 = u.toNat := (by rw [h.2]); unfold capB at h2; rw [decide_eq_true_eq] at h2; omega }).1; unfold curB; rw [all_false hu hc, Bool.and_false]; rfl) gv
 refine sx 3 ?_
 refine kp [3, 7, 16] rfl ?_
 first | refine Run.if rfl (fun h2 => ?_) (fun h2 => ?_) | refine Run.cond rfl (fun h2 => ?_) (fun h2 => ?_)
 refine sr ?_
 refine asg rfl rfl ?_
 refine kp [2] rfl ?_
 refine Run.ret ?_
 exact ret_one (.tmp rfl .nil) (by have hc := (hcd.resolve_left fun h => by { have h2 := h.1; have h3 : (Utf8.decode s i).1 = u.toNat := (by rw [h.2]); unfold capB at h2; rw [decide_eq_true_eq] at h2; omega }).1; unfold curB; rw [all_false hu hc, Bool.and_false]; rfl) gv
 refine Run.skip ?_
 refine Run.region ?_
 refine sx 3 ?_
 obtain ⟨hc1, hc2⟩ := hcd.resolve_right (fun h => h.2 (by omega))
 rw [hc2]
 exact RunL.next (Keep.sub (kt (ks := [3, 7]) rfl)) _ ⟨_, by omega, i + 1, rfl, by omega, fun j v hj hv => (by rcases Nat.lt_succ_iff_lt_or_eq.1 hj with h | rfl; exact hI0 j v h hv; rw [hu] at hv; cases hv; exact hc1), rfl, rfl⟩ gv
theorem c_opt (s : ByteArray) : AC Tryz.prog 134 ⟨[St s]⟩ (stars []) (Ret (Bo (optB s)) []) := by
 refine AC.go Tryz.func134 rfl (Nat.le_of_ble_eq_true rfl) fun β => ?_
 refine sr ?_
 refine asg rfl rfl ?_
 refine kp [0] rfl ?_
 refine sr ?_
 refine sx 3 ?_
 first | refine RunL.splitP (t := 5) rfl (fun g1 => ?_) (fun g1 => ?_) | refine RunL.split (t := 5) rfl (fun g1 => ?_) (fun g1 => ?_)
 refine sx 4 ?_
 refine kp [2] rfl ?_
 refine Run.ret ?_
 exact ret_one (.tmp rfl .nil) (by first | (simp [tup, optB,  *]; done) | (exfalso; omega)) gv
 refine sx 1 ?_
 refine RunL.callG C111 rfl rfl rfl rfl rfl (c_Code _) .nil ?_
 refine sx 2 ?_
 refine kp [2] rfl ?_
 refine Run.ret ?_
 exact ret_one (.tmp rfl .nil) (by first | (simp [tup, optB,  *]; done) | (exfalso; omega)) gv
theorem c_within (n lim : Int) (hl : 0 ≤ lim ∧ lim ≤ 1000000000000000) : AC Tryz.prog 135 ⟨[I n, I lim]⟩ (stars []) (Ret (Bo (wiB n lim)) []) := by
 refine AC.go Tryz.func135 rfl (Nat.le_of_ble_eq_true rfl) fun β => ?_
 refine sr ?_
 refine asg rfl rfl ?_
 refine kp [0, 1] rfl ?_
 refine sr ?_
 refine sx 3 ?_
 refine RunL.set (congrArg I (show _ = -lim by rw [wrap_i64_in (by omega)]; omega)) ?_
 refine sx 2 ?_
 first | refine RunL.splitP (t := 9) rfl (fun g1 => ?_) (fun g1 => ?_) | refine RunL.split (t := 9) rfl (fun g1 => ?_) (fun g1 => ?_)
 refine sx 5 ?_
 refine kp [4] rfl ?_
 refine Run.ret ?_
 exact ret_one (.tmp rfl .nil) (by first | (simp [tup, wiB,  *]; done) | (exfalso; omega)) gv
 refine sx 5 ?_
 refine kp [4] rfl ?_
 refine Run.ret ?_
 exact ret_one (.tmp rfl .nil) (by first | (simp [tup, wiB,  *]; done) | (exfalso; omega)) gv
theorem c_codes (t : Tg) : AC Tryz.prog 172 ⟨[.agg ⟨t.c⟩]⟩ (stars []) (Ret (Bo (tgOk t)) []) := by
 refine AC.go Tryz.func172 rfl (Nat.le_of_ble_eq_true rfl) fun β => ?_
 refine sr ?_
 refine RunL.op rfl rfl (OpJ.boxA rfl fun b1 => ?_)
 refine asg rfl rfl ?_
 refine kp [1] rfl ?_
 refine sr ?_
 refine sx 2 ?_
 refine RunL.call C111 rfl rfl rfl (c_Code _) .nil ?_
 refine mvo rfl rfl ?_
 first | refine RunL.splitP (t := 6) rfl (fun g1 => ?_) (fun g1 => ?_) | refine RunL.split (t := 6) rfl (fun g1 => ?_) (fun g1 => ?_)
 refine sx 2 ?_
 refine RunL.callG C111 rfl rfl rfl rfl rfl (c_Code _) .nil ?_
 refine sx 2 ?_
 refine kp [2] rfl ?_
 refine Run.ret ?_
 exact ret_one (.tmp rfl .nil) (by first | (simp [tup, tgOk,  *]; done) | (exfalso; omega)) gv
 refine sx 5 ?_
 refine kp [2] rfl ?_
 refine Run.ret ?_
 exact ret_one (.tmp rfl .nil) (by first | (simp [tup, tgOk,  *]; done) | (exfalso; omega)) gv
theorem c_dRight (R : HP) (oa : Option Addr) (cap : Nat) (ts : List Tg) (hR : RdS R oa (ts.flatMap Tg.c)) : AC Tryz.prog 128 ⟨[.slice oa ts.length cap]⟩ (stars [R]) (Ret (Bo (rightB ts)) [R]) := by
 refine AC.go Tryz.func128 rfl (Nat.le_of_ble_eq_true rfl) fun β => ?_
 refine sr ?_
 refine asg rfl rfl ?_
 refine kp [0] rfl ?_
 refine Run.seq ?_
 refine sr ?_
 refine sx 3 ?_
 refine kp [0, 7] rfl ?_
 first | refine Run.if rfl (fun h1 => ?_) (fun h1 => ?_) | refine Run.cond rfl (fun h1 => ?_) (fun h1 => ?_)
 refine sr ?_
 refine asg rfl rfl ?_
 refine kp [2] rfl ?_
 refine Run.ret ?_
 exact ret_one (.tmp rfl .nil) (by rw [right_long (by omega)]; rfl) gv
 refine Run.skip ?_
 refine Run.seq ?_
 refine sr ?_
 refine sx 3 ?_
 refine kp [0, 8, 9, 10] rfl ?_
 refine Run.block ?_
 refine Run.loop (fun mm E L => ∃ i : Nat, mm = ts.length - i ∧ i ≤ ts.length ∧ okTo ts i ∧ E = [(0, .slice oa ts.length cap), (8, .slice oa ts.length cap), (9, I ts.length), (10, I i)] ∧ L = [R]) ⟨_, 0, rfl, Nat.zero_le _, okTo.zero, rfl, rfl⟩ ?_
 rintro _ _ _ ⟨i, rfl, hi, hI0, rfl, rfl⟩
 refine sr ?_
 refine sx 1 ?_
 refine kp [0, 8, 9, 10, 11] rfl ?_
 refine Run.seq ?_
 first | refine Run.if rfl (fun h2 => ?_) (fun h2 => ?_) | refine Run.cond rfl (fun h2 => ?_) (fun h2 => ?_)
 refine Run.skip ?_
 refine Run.seq ?_
 refine Run.block ?_
 refine sr ?_
 obtain ⟨t, ht⟩ := get_ex (xs := ts) (i := i) (by omega)
 refine RunL.rdOpen pk hR (flat_ne (k := 2) (fun _ => rfl) (by decide) ht) fun b o e hrd => ?_
 subst e
 refine sx 2 ?_
 refine RunL.op rfl rfl (OpJ.loadA inferInstance rfl pk (hrd.elem (fun _ => rfl) ht) rfl ?_)
 refine RunL.op rfl rfl (OpJ.alloc Z83 fun b4 => ?_)
 refine asg rfl rfl ?_
 refine RunL.op rfl rfl (OpJ.storeW T83 rfl rfl rfl rfl (by simp [Value.oneCell', Tg.c, Ln.c, En.c, Ac.c, Cl.c, Ky.c, Qy.c, Sb, Iv]) up ?_)
 refine kp [0, 3, 4, 8, 9, 10] rfl ?_
 refine Run.seq ?_
 refine regionD HM ?_
 first | refine RunD.takeW 0 rfl rfl kr T83 rfl pk (by rfl) ?_ | refine RunD.takeP 0 rfl rfl kr T83 rfl pk (by simp) ?_ | refine RunD.takeE 0 rfl rfl kr T83 rfl pk (by assumption) (by exact fun _ => rfl) rfl (by decide) ?_
 refine RunD.op 1 [false] rfl rfl rfl kr kr (OpJ.callRet C172 rfl rfl (c_codes _) .nil ⟨po, ?_⟩)
 refine tk 2 rfl rfl rfl (DetJ.not rfl) ?_
 refine tk 3 rfl rfl rfl (DetJ.move rfl) ?_
 rcases Bool.eq_false_or_eq_true (tgOk t) with hok | hok
 refine RunD.set (v := Bo false) (by rw [hok]; rfl) ?_
 refine RunD.takeG 4 rfl rfl rfl rfl rfl kr (DetJ.move rfl) .nil ?_
 refine RunD.takeG 5 rfl rfl rfl rfl rfl kr (DetJ.gtr rfl rfl) .nil ?_
 refine RunD.takeG 6 rfl rfl rfl rfl rfl kr (DetJ.move rfl) .nil ?_
 by_cases hp : 0 < i
 obtain ⟨j, rfl⟩ : ∃ j, i = j + 1 := ⟨i - 1, by omega⟩
 obtain ⟨u, hu⟩ := get_ex (xs := ts) (i := j) (by omega)
 refine RunD.set (congrArg Bo (decide_eq_true (by omega))) ?_
 refine RunD.takeG 7 rfl rfl rfl rfl rfl kr (DetJ.move rfl) .nil ?_
 refine RunD.takeG 8 rfl rfl rfl rfl rfl kr (DetJ.move rfl) .nil ?_
 first | refine RunD.takeG 9 rfl rfl rfl rfl rfl kr (DetJ.subI rfl rfl (by omega)) .nil ?_ | refine RunD.takeG 9 rfl rfl rfl rfl rfl kr (DetJ.sub rfl rfl) .nil ?_
 refine RunD.set (v := I (j : Int)) (congrArg I (by omega)) ?_
 refine RunD.takeG 10 rfl rfl rfl rfl rfl kr (DetJ.indexAddr S38 rfl rfl (by omega)) .nil ?_
 refine RunD.takeG 11 rfl rfl rfl rfl rfl kr (DetJ.fieldAddr F83_0 rfl) .nil ?_
 refine RunD.takeGR1 12 rfl rfl rfl rfl kr T9 rfl pk (hrd.at (enc := Tg.c) 2 (fun _ => rfl) hu 0 (St u.name) rfl) ?_
 refine RunD.takeG 13 rfl rfl rfl rfl rfl kr (DetJ.fieldAddr F83_0 rfl) .nil ?_
 first | refine RunD.takeGF 14 rfl rfl rfl rfl kr T9 rfl pk (by rfl) ?_ | refine RunD.takeGO 14 rfl rfl rfl rfl kr T9 rfl pk (by assumption) (by rfl) (by exact fun _ => rfl) ?_
 refine RunD.takeG 15 rfl rfl rfl rfl rfl kr (DetJ.geqS rfl rfl) .nil ?_
 refine RunD.takeG 16 rfl rfl rfl rfl rfl kr (DetJ.pickT rfl rfl) .nil ?_
 refine tk 17 rfl rfl rfl (DetJ.pickF rfl rfl) ?_
 refine kd [0, 8, 9, 10, 32] rfl ?_
 first | refine Run.if rfl (fun h3 => ?_) (fun h3 => ?_) | refine Run.cond rfl (fun h3 => ?_) (fun h3 => ?_)
 refine sr ?_
 refine asg rfl rfl ?_
 refine kp [2] rfl ?_
 refine Run.ret ?_
 exact ret_one (.tmp rfl .nil) (by rw [okT_fall ht hu (by simpa [blt] using h3)]; rfl) gv
 refine Run.skip ?_
 refine Run.region ?_
 refine sx 2 ?_
 exact RunL.next (Keep.sub (kt (ks := [0, 8, 9, 10]) rfl)) _ ⟨_, by omega, j + 1 + 1, rfl, by omega, hI0.step ht hok (fun j2 u2 q1 q2 => by { obtain rfl : j2 = j := by { omega }; rw [hu] at q2; cases q2; simpa [blt] using h3 }), rfl, rfl⟩ gv
 refine RunD.set (congrArg Bo (decide_eq_false (by omega))) ?_
 refine RunD.takeN 7 rfl rfl rfl rfl rfl kr ?_
 refine RunD.takeN 8 rfl rfl rfl rfl rfl kr ?_
 refine RunD.takeN 9 rfl rfl rfl rfl rfl kr ?_
 refine RunD.takeN 10 rfl rfl rfl rfl rfl kr ?_
 refine RunD.takeN 11 rfl rfl rfl rfl rfl kr ?_
 refine RunD.takeN 12 rfl rfl rfl rfl rfl kr ?_
 refine RunD.takeN 13 rfl rfl rfl rfl rfl kr ?_
 refine RunD.takeN 14 rfl rfl rfl rfl rfl kr ?_
 refine RunD.takeN 15 rfl rfl rfl rfl rfl kr ?_
 refine RunD.takeG 16 rfl rfl rfl rfl rfl kr (DetJ.pickF rfl rfl) .nil ?_
 refine tk 17 rfl rfl rfl (DetJ.pickF rfl rfl) ?_
 refine kd [0, 8, 9, 10, 32] rfl ?_
 refine Run.false rfl ?_
 refine Run.skip ?_
 refine Run.region ?_
 refine sx 2 ?_
 exact RunL.next (Keep.sub (kt (ks := [0, 8, 9, 10]) rfl)) _ ⟨_, by omega, i + 1, rfl, by omega, hI0.step ht hok (fun j2 u2 q1 q2 => by omega), rfl, rfl⟩ gv
 refine RunD.set (v := Bo true) (by rw [hok]; rfl) ?_
 refine RunD.takeN 4 rfl rfl rfl rfl rfl kr ?_
 refine RunD.takeN 5 rfl rfl rfl rfl rfl kr ?_
 refine RunD.takeN 6 rfl rfl rfl rfl rfl kr ?_
 refine RunD.takeU 7 rfl rfl rfl rfl rfl ?_
 refine RunD.takeU 8 rfl rfl rfl rfl rfl ?_
 refine RunD.takeU 9 rfl rfl rfl rfl rfl ?_
 refine RunD.takeU 10 rfl rfl rfl rfl rfl ?_
 refine RunD.takeU 11 rfl rfl rfl rfl rfl ?_
 refine RunD.takeU 12 rfl rfl rfl rfl rfl ?_
 refine RunD.takeU 13 rfl rfl rfl rfl rfl ?_
 refine RunD.takeU 14 rfl rfl rfl rfl rfl ?_
 refine RunD.takeU 15 rfl rfl rfl rfl rfl ?_
 refine RunD.takeN 16 rfl rfl rfl rfl rfl kr ?_
 refine tk 17 rfl rfl rfl (DetJ.pickT rfl rfl) ?_
 refine kd [0, 8, 9, 10, 32] rfl ?_
 refine Run.true rfl ?_
 refine sr ?_
 refine asg rfl rfl ?_
 refine kp [2] rfl ?_
 refine Run.ret ?_
 exact ret_one (.tmp rfl .nil) (by rw [okT_bad ht hok]; rfl) gv
 refine Run.exit ?_
 refine sr ?_
 refine asg rfl rfl ?_
 refine kp [2] rfl ?_
 refine Run.ret ?_
 exact ret_one (.tmp rfl .nil) (by rw [hI0.all (by omega) (by omega)]; rfl) gv
end
instance mpAcc : MPI Tryz.prog 94 9 78 := ⟨by kernel_rfl⟩
instance zvAcc : ZVI Tryz.prog 78 (.agg ⟨Ac0.c⟩) := ⟨by kernel_rfl⟩
theorem sb1 : ∀ x : ByteArray, ∀ v ∈ Sb x, v.oneCell' = true := fun x v hv => by simp [Sb] at hv; subst hv; rfl
section
attribute [local irreducible] OpJ RunL Run RunD DetJ pt own star Rd RdS
theorem cl_str (R : HP) (oa : Option Addr) (cap : Nat) (ls : List ByteArray) (hR : RdS R oa (ls.flatMap Sb)) (hlen : ls.length ≤ 1000000) : AC Tryz.prog 78 ⟨[.slice oa ls.length cap]⟩ (stars [R]) (Outs (fun _ : Option Addr × Nat => True) (fun x => .slice x.1 ls.length x.2) (fun x => [own 9 1 x.1 ls.length x.2 (ls.flatMap Sb), R])) := by
 refine AC.go Tryz.func78 rfl (Nat.le_of_ble_eq_true rfl) fun β => ?_
 refine sr ?_
 refine asg rfl rfl ?_
 refine kp [0] rfl ?_
 refine Run.seq ?_
 refine sr ?_
 refine sx 2 ?_
 refine kp [0, 4] rfl ?_
 first | refine Run.if rfl (fun h1 => ?_) (fun h1 => ?_) | refine Run.cond rfl (fun h1 => ?_) (fun h1 => ?_)
 refine sr ?_
 by_cases hne : ls.flatMap Sb ≠ []
 refine RunL.rdOpen pk hR hne fun b o e hrd => ?_
 rw [e] at h1
 cases h1
 obtain rfl : ls = [] := by
   cases ls with
   | nil => rfl
   | cons l ls => exact absurd (by simp [Sb]) hne
 refine RunL.ownNil 9 1 ?_
 refine asg rfl rfl ?_
 refine kp [2] rfl ?_
 refine Run.ret ?_
 exact ret_out (none, 0) (.tmp rfl .nil) trivial rfl gv
 refine Run.skip ?_
 refine sr ?_
 refine RunL.op rfl rfl (OpJ.buildSlice0 S73 fun b5 => ?_)
 refine mvo rfl rfl ?_
 refine RunL.op rfl rfl (OpJ.appendAll S73 M9 rfl rfl pk pk hR (flat_len (enc := Sb) (k := 1) (fun _ => rfl) _) (by decide) (flat_one sb1 _) (by omega) (by omega) fun a7 c7 => ?_)
 simp only [Nat.zero_add, List.nil_append]
 refine asg rfl rfl ?_
 refine kp [2] rfl ?_
 refine Run.ret ?_
 exact ret_out (a7, c7) (.tmp rfl .nil) trivial rfl gv
theorem c_copied (a : Ac) (R : HP) (hR : RdS R a.na (a.need.flatMap Sb)) (hl : a.need.length ≤ 140737488355328) (hl6 : a.need.length ≤ 1000000) : AC Tryz.prog 44 ⟨[.agg ⟨a.c⟩]⟩ (stars [R]) (Outs (fun _ : Option Addr × Nat => True) (fun y => .agg ⟨(a.put y).c⟩) (fun y => [own 9 1 y.1 a.need.length y.2 (a.need.flatMap Sb), R])) := by
 refine AC.go Tryz.func44 rfl (Nat.le_of_ble_eq_true rfl) fun β => ?_
 refine sr ?_
 refine RunL.op rfl rfl (OpJ.boxA rfl fun b1 => ?_)
 refine RunL.op rfl rfl (OpJ.alloc Z78 fun b2 => ?_)
 refine kp [1, 2] rfl ?_
 refine sr ?_
 refine sx 2 ?_
 refine RunL.callX C78 rfl rfl rfl (cl_str R a.na a.nc a.need hR hl6) tks fun ⟨na, nc⟩ _ => ?_
 refine sx 1 ?_
 refine RunL.op rfl rfl (OpJ.store1 inferInstance rfl rfl rfl up (by simp [Ac.c]) ?_)
 refine kp [1, 2] rfl ?_
 refine sr ?_
 refine sx 1 ?_
 refine RunL.op rfl rfl (OpJ.storeW T78 rfl rfl rfl rfl (by simp [Value.oneCell', Tg.c, Ln.c, En.c, Ac.c, Cl.c, Ky.c, Qy.c, Sb, Iv]) up ?_)
 refine kp [2] rfl ?_
 refine Run.ret ?_
 exact ret_out (na, nc) (.cellA T78 rfl pk (by rfl) .nil) trivial rfl gv
theorem c_names (a : Ac) (R : HP) (hR : RdS R a.na (a.need.flatMap Sb)) (hl : a.need.length ≤ 140737488355328) : AC Tryz.prog 76 ⟨[.agg ⟨a.c⟩]⟩ (stars [R]) (Ret (Bo (namesB a)) [R]) := by
 refine AC.go Tryz.func76 rfl (Nat.le_of_ble_eq_true rfl) fun β => ?_
 refine sr ?_
 refine RunL.op rfl rfl (OpJ.boxA rfl fun b1 => ?_)
 refine asg rfl rfl ?_
 refine kp [1] rfl ?_
 refine Run.seq ?_
 refine sr ?_
 refine sx 4 ?_
 refine kp [1, 6, 7, 8] rfl ?_
 refine Run.block ?_
 refine Run.loop (fun mm E L => ∃ i : Nat, mm = a.need.length - i ∧ i ≤ a.need.length ∧ codeTo a.need i ∧ E = [(1, .pointer (some ⟨b1, 0, none⟩)), (6, .slice a.na a.need.length a.nc), (7, I a.need.length), (8, I i)] ∧ L = [pt b1 (blk a.c 78), R]) ⟨_, 0, rfl, Nat.zero_le _, (fun j x h => by omega), rfl, rfl⟩ ?_
 rintro _ _ _ ⟨i, rfl, hi, hI0, rfl, rfl⟩
 refine sr ?_
 refine sx 1 ?_
 refine kp [1, 6, 7, 8, 9] rfl ?_
 refine Run.seq ?_
 first | refine Run.if rfl (fun h1 => ?_) (fun h1 => ?_) | refine Run.cond rfl (fun h1 => ?_) (fun h1 => ?_)
 refine Run.skip ?_
 refine Run.seq ?_
 refine Run.block ?_
 refine sr ?_
 obtain ⟨x, hx⟩ := get_ex (xs := a.need) (i := i) (by omega)
 refine RunL.rdOpen pk hR (flat_ne (k := 1) (fun _ => rfl) (by decide) hx) fun b o ebo hrd => ?_
 rw [ebo]
 refine sx 1 ?_
 refine RunL.op rfl rfl (OpJ.load1 inferInstance rfl pk (hrd.elem (enc := Sb) (fun _ => rfl) hx) ?_)
 refine asg rfl rfl ?_
 refine kp [1, 4, 6, 7, 8] rfl ?_
 refine sr ?_
 refine mvo rfl rfl ?_
 refine RunL.call C111 rfl rfl rfl (c_Code _) .nil ?_
 refine RunL.op rfl rfl (OpJ.not rfl ?_)
 refine kp [1, 6, 7, 8, 14] rfl ?_
 first | refine Run.if rfl (fun h2 => ?_) (fun h2 => ?_) | refine Run.cond rfl (fun h2 => ?_) (fun h2 => ?_)
 refine sr ?_
 refine asg rfl rfl ?_
 refine kp [2] rfl ?_
 refine Run.ret ?_
 exact ret_one (.tmp rfl .nil) (by unfold namesB; rw [code_not hx (by simpa using h2)]; rfl) gv
 refine Run.skip ?_
 refine Run.region ?_
 refine sx 2 ?_
 exact RunL.next (Keep.sub (kt (ks := [1, 6, 7, 8]) rfl)) _ ⟨_, by omega, i + 1, rfl, by omega, (fun j y hj hy => by { by_cases e : j = i; (subst e; rw [hx] at hy; cases hy; simpa using h2); exact hI0 j y (by omega) hy }), rfl, rfl⟩ gv
 refine Run.exit ?_
 refine sr ?_
 refine sx 2 ?_
 refine RunL.call C111 rfl rfl rfl (c_Code _) .nil ?_
 refine mvo rfl rfl ?_
 first | refine RunL.splitP (t := 19) rfl (fun g3 => ?_) (fun g3 => ?_) | refine RunL.split (t := 19) rfl (fun g3 => ?_) (fun g3 => ?_)
 refine sx 4 ?_
 first | refine RunL.splitP (t := 23) rfl (fun g4 => ?_) (fun g4 => ?_) | refine RunL.split (t := 23) rfl (fun g4 => ?_) (fun g4 => ?_)
 refine sx 6 ?_
 refine kp [2] rfl ?_
 refine Run.ret ?_
 exact ret_one (.tmp rfl .nil) (by unfold namesB optB; rw [hI0.all (by omega)]; simp_all [tup]) gv
 refine sx 2 ?_
 refine RunL.callG C111 rfl rfl rfl rfl rfl (c_Code _) .nil ?_
 refine sx 3 ?_
 refine kp [2] rfl ?_
 refine Run.ret ?_
 exact ret_one (.tmp rfl .nil) (by unfold namesB optB; rw [hI0.all (by omega)]; simp_all [tup]) gv
 refine sx 10 ?_
 refine kp [2] rfl ?_
 refine Run.ret ?_
 exact ret_one (.tmp rfl .nil) (by unfold namesB optB; rw [hI0.all (by omega)]; simp_all [tup]) gv
theorem c_first (R : HP) (b cap : Nat) (rs : List Rl) (hR : Rd R ⟨b, 0, none⟩ (rs.flatMap Rl.c)) (hl : rs.length ≤ 10) : AC Tryz.prog 75 ⟨[.slice (some ⟨b, 0, none⟩) rs.length cap]⟩ (stars [R]) (Ret (I (firstE rs)) [R]) := by
 refine AC.go Tryz.func75 rfl (Nat.le_of_ble_eq_true rfl) fun β => ?_
 refine sr ?_
 refine asg rfl rfl ?_
 refine kp [0] rfl ?_
 refine Run.seq ?_
 refine sr ?_
 refine sx 3 ?_
 refine kp [5, 6, 7] rfl ?_
 refine Run.block ?_
 refine Run.loop (fun mm E L => ∃ i : Nat, mm = rs.length - i ∧ i ≤ rs.length ∧ okR rs i ∧ E = [(5, .slice (some ⟨b, 0, none⟩) rs.length cap), (6, I rs.length), (7, I i)] ∧ L = [R]) ⟨_, 0, rfl, Nat.zero_le _, (fun j x h => by omega), rfl, rfl⟩ ?_
 rintro _ _ _ ⟨i, rfl, hi, hI0, rfl, rfl⟩
 refine sr ?_
 refine sx 1 ?_
 refine kp [5, 6, 7, 8] rfl ?_
 refine Run.seq ?_
 first | refine Run.if rfl (fun h1 => ?_) (fun h1 => ?_) | refine Run.cond rfl (fun h1 => ?_) (fun h1 => ?_)
 refine Run.skip ?_
 refine Run.seq ?_
 refine Run.block ?_
 refine sr ?_
 obtain ⟨x, hx⟩ := get_ex (xs := rs) (i := i) (by omega)
 refine sx 1 ?_
 refine RunL.op rfl rfl (OpJ.loadA inferInstance rfl pk (hR.elem (fun _ => rfl) hx) rfl ?_)
 refine RunL.op rfl rfl (OpJ.alloc Z144 fun b4 => ?_)
 refine RunL.op rfl rfl (OpJ.storeW T144 rfl rfl rfl rfl (by simp [Value.oneCell', Rl.c]) up ?_)
 refine kp [4, 5, 6, 7] rfl ?_
 refine sr ?_
 refine sx 2 ?_
 refine kp [4, 5, 6, 7, 12] rfl ?_
 first | refine Run.if rfl (fun h2 => ?_) (fun h2 => ?_) | refine Run.cond rfl (fun h2 => ?_) (fun h2 => ?_)
 refine sr ?_
 refine sx 3 ?_
 refine kp [2] rfl ?_
 refine Run.ret ?_
 exact ret_one (.tmp rfl .nil) (congrArg I (first_at hI0 hx (by simpa using h2)).symm) gv
 refine Run.skip ?_
 refine Run.region ?_
 refine sx 2 ?_
 exact RunL.next (Keep.sub (kt (ks := [5, 6, 7]) rfl)) _ ⟨_, by omega, i + 1, rfl, by omega, (fun j y hj hy => by { by_cases e : j = i; (subst e; rw [hx] at hy; cases hy; simpa using h2); exact hI0 j y (by omega) hy }), rfl, rfl⟩ gv
 refine Run.exit ?_
 refine sr ?_
 refine asg rfl rfl ?_
 refine kp [2] rfl ?_
 refine Run.ret ?_
 exact ret_one (.tmp rfl .nil) (congrArg I (hI0.all (by omega)).symm) gv
theorem c_rising (R : HP) (oa : Option Addr) (cap : Nat) (ns : List ByteArray) (hR : RdS R oa (ns.flatMap Sb)) (hl : ns.length ≤ 140737488355328) : AC Tryz.prog 77 ⟨[.slice oa ns.length cap]⟩ (stars [R]) (Ret (Bo (risB ns)) [R]) := by
 refine AC.go Tryz.func77 rfl (Nat.le_of_ble_eq_true rfl) fun β => ?_
 refine sr ?_
 refine asg rfl rfl ?_
 refine kp [0] rfl ?_
 refine Run.seq ?_
 refine sr ?_
 refine asg rfl rfl ?_
 refine kp [0, 3] rfl ?_
 refine Run.block ?_
 refine Run.loop (fun mm E L => ∃ i : Nat, mm = ns.length - i ∧ risTo ns (i + 1) ∧ E = [(0, .slice oa ns.length cap), (3, I ((i + 1 : Nat) : Int))] ∧ L = [R]) ⟨_, 0, rfl, risTo.one, rfl, rfl⟩ ?_
 rintro _ _ _ ⟨i, rfl, hI0, rfl, rfl⟩
 refine Run.seq ?_
 refine sr ?_
 refine sx 4 ?_
 refine kp [0, 3, 7] rfl ?_
 first | refine Run.if rfl (fun h1 => ?_) (fun h1 => ?_) | refine Run.cond rfl (fun h1 => ?_) (fun h1 => ?_)
 refine Run.skip ?_
 refine Run.seq ?_
 refine Run.block ?_
 refine Run.seq ?_
 refine regionD HM ?_
 obtain ⟨x, hx⟩ := get_ex (xs := ns) (i := i) (by omega)
 obtain ⟨y, hy⟩ := get_ex (xs := ns) (i := i + 1) (by omega)
 refine RunD.rdOpen pk hR (flat_ne (k := 1) (fun _ => rfl) (by decide) hx) fun b o ebo hrd => ?_
 rw [ebo]
 refine tk 0 rfl rfl rfl (DetJ.move rfl) ?_
 refine tk 1 rfl rfl rfl (DetJ.move rfl) ?_
 first | refine tk 2 rfl rfl rfl (DetJ.subI rfl rfl (by omega)) ?_ | refine tk 2 rfl rfl rfl (DetJ.sub rfl rfl) ?_
 refine RunD.set (v := I (i : Int)) (congrArg I (by omega)) ?_
 refine tk 3 rfl rfl rfl (DetJ.indexAddr S73 rfl rfl (by omega)) ?_
 refine RunD.takeR1 4 rfl rfl kr T9 rfl pk (hrd.elem (enc := Sb) (fun _ => rfl) hx) ?_
 refine tk 5 rfl rfl rfl (DetJ.move rfl) ?_
 refine tk 6 rfl rfl rfl (DetJ.move rfl) ?_
 refine tk 7 rfl rfl rfl (DetJ.indexAddr S73 rfl rfl (by omega)) ?_
 refine RunD.takeR1 8 rfl rfl kr T9 rfl pk (hrd.elem (enc := Sb) (fun _ => rfl) hy) ?_
 refine tk 9 rfl rfl rfl (DetJ.geqS rfl rfl) ?_
 refine kd [0, 3, 19] rfl ?_
 first | refine Run.if rfl (fun h2 => ?_) (fun h2 => ?_) | refine Run.cond rfl (fun h2 => ?_) (fun h2 => ?_)
 refine sr ?_
 refine asg rfl rfl ?_
 refine kp [2] rfl ?_
 refine Run.ret ?_
 exact ret_one (.tmp rfl .nil) (congrArg Bo (ris_not hx hy (by simpa [blt] using h2)).symm) gv
 refine Run.skip ?_
 refine Run.region ?_
 refine sx 3 ?_
 exact RunL.next (Keep.sub (kt (ks := [0, 3]) rfl)) _ ⟨_, by omega, i + 1, rfl, hI0.step hx hy (by simpa [blt] using h2), rfl, rfl⟩ gv
 refine Run.exit ?_
 refine sr ?_
 refine asg rfl rfl ?_
 refine kp [2] rfl ?_
 refine Run.ret ?_
 exact ret_one (.tmp rfl .nil) (congrArg Bo (hI0.all (by omega)).symm) gv
theorem c_has (s : ByteArray) (pb : Nat) (b bm : Nat) (v w : Value) (m : List Ac) : AC Tryz.prog 74 ⟨[St s, .pointer (some ⟨pb, 0, none⟩)]⟩ (stars [pt pb (blk [.pointer (some ⟨b, 0, none⟩)] 56), pt b (blk [.map (some bm), v, w] 97), amap bm acF acG m]) (Ret (Bo (getL m s).isSome) [pt pb (blk [.pointer (some ⟨b, 0, none⟩)] 56), pt b (blk [.map (some bm), v, w] 97), amap bm acF acG m]) := by
 refine AC.go Tryz.func74 rfl (Nat.le_of_ble_eq_true rfl) fun β => ?_
 refine sr ?_
 refine asg rfl rfl ?_
 refine kp [0, 1] rfl ?_
 refine sr ?_
 refine sx 5 ?_
 refine RunL.op rfl rfl (OpJ.lookup2 keyStr inferInstance inferInstance inferInstance rfl rfl pk ?_)
 rcases hk : kAt Ac.code s m with _ | q
 rw [gotL_none hk]
 refine RunL.set (v := .tuple ⟨[acG Ac0, Bo false]⟩) rfl ?_
 refine sx 3 ?_
 refine RunL.op rfl rfl (OpJ.alloc Z78 fun b4 => ?_)
 refine RunL.op rfl rfl (OpJ.storeW T78 rfl rfl rfl rfl (by simp [Value.oneCell', Tg.c, Ln.c, En.c, Ac.c, Cl.c, Ky.c, Qy.c, Sb, Iv]) up ?_)
 refine asg rfl rfl ?_
 refine kp [5] rfl ?_
 refine sr ?_
 refine sx 2 ?_
 refine kp [3] rfl ?_
 refine Run.ret ?_
 exact ret_one (.tmp rfl .nil) (rfl) gv
 rw [gotL_some hk]
 refine RunL.set (v := .tuple ⟨[acG q.2, Bo true]⟩) rfl ?_
 refine sx 3 ?_
 refine RunL.op rfl rfl (OpJ.alloc Z78 fun b4 => ?_)
 refine RunL.op rfl rfl (OpJ.storeW T78 rfl rfl rfl rfl (by simp [Value.oneCell', Tg.c, Ln.c, En.c, Ac.c, Cl.c, Ky.c, Qy.c, Sb, Iv]) up ?_)
 refine asg rfl rfl ?_
 refine kp [5] rfl ?_
 refine sr ?_
 refine sx 2 ?_
 refine kp [3] rfl ?_
 refine Run.ret ?_
 exact ret_one (.tmp rfl .nil) (rfl) gv
theorem c_circular (b bm : Nat) (v w : Value) (m : List Ac) (code : ByteArray) (hl : m.length ≤ 400) : AC Tryz.prog 79 ⟨[.pointer (some ⟨b, 0, none⟩), St code]⟩ (stars [pt b (blk [.map (some bm), v, w] 97), amap bm acF acG m]) (Ret (Bo (circB m code)) [pt b (blk [.map (some bm), v, w] 97), amap bm acF acG m]) := by
 refine AC.go Tryz.func79 rfl (Nat.le_of_ble_eq_true rfl) fun β => ?_
 refine sr ?_
 refine asg rfl rfl ?_
 refine kp [0, 1] rfl ?_
 refine sr ?_
 refine sx 5 ?_
 refine RunL.op rfl rfl (OpJ.lookupA1 inferInstance inferInstance inferInstance rfl rfl pk ?_)
 refine sx 1 ?_
 refine RunL.set (v := St (parOf m code)) (congrArg St par_lk) ?_
 refine asg rfl rfl ?_
 refine kp [0, 1, 5] rfl ?_
 refine Run.seq ?_
 refine sr ?_
 refine sx 4 ?_
 refine RunL.op rfl rfl (OpJ.lenM mpAcc rfl pk ?_)
 refine mvo rfl rfl ?_
 refine kp [0, 1, 5, 17, 18] rfl ?_
 refine Run.block ?_
 refine Run.loop (fun mm E L => ∃ (i : Nat) (at_ : ByteArray), mm = m.length - i ∧ i ≤ m.length ∧ circN m code (m.length - i) at_ = circB m code ∧ E = [(0, .pointer (some ⟨b, 0, none⟩)), (1, St code), (5, St at_), (17, I m.length), (18, I i)] ∧ L = [pt b (blk [.map (some bm), v, w] 97), amap bm acF acG m]) ⟨_, 0, _, rfl, Nat.zero_le _, rfl, rfl, rfl⟩ ?_
 rintro _ _ _ ⟨i, at_, rfl, hi, hI0, rfl, rfl⟩
 refine sr ?_
 refine sx 1 ?_
 refine kp [0, 1, 5, 17, 18, 19] rfl ?_
 refine Run.seq ?_
 first | refine Run.if rfl (fun h1 => ?_) (fun h1 => ?_) | refine Run.cond rfl (fun h1 => ?_) (fun h1 => ?_)
 refine Run.skip ?_
 refine Run.seq ?_
 refine Run.block ?_
 refine Run.seq ?_
 refine sr ?_
 refine sx 3 ?_
 refine kp [0, 1, 5, 17, 18, 22] rfl ?_
 first | refine Run.if rfl (fun h2 => ?_) (fun h2 => ?_) | refine Run.cond rfl (fun h2 => ?_) (fun h2 => ?_)
 refine sr ?_
 refine asg rfl rfl ?_
 refine kp [4] rfl ?_
 refine Run.ret ?_
 exact ret_one (.tmp rfl .nil) (by obtain ⟨n, hn⟩ : ∃ n, m.length - i = n + 1 := ⟨m.length - i - 1, by omega⟩; rw [hn, circ_true (by simpa using h2)] at hI0; rw [← hI0]; rfl) gv
 refine Run.skip ?_
 refine Run.region ?_
 refine sx 5 ?_
 refine RunL.op rfl rfl (OpJ.lookupA1 inferInstance inferInstance inferInstance rfl rfl pk ?_)
 refine sx 1 ?_
 refine RunL.set (v := St (parOf m at_)) (congrArg St par_lk) ?_
 refine asg rfl rfl ?_
 refine kp [0, 1, 5, 17, 18] rfl ?_
 refine Run.region ?_
 refine sx 2 ?_
 obtain ⟨n, hn⟩ : ∃ n, m.length - i = n + 1 := ⟨m.length - i - 1, by omega⟩
 rw [hn, circ_step (by simpa using h2)] at hI0
 exact RunL.next (Keep.sub (kt (ks := [0, 1, 5, 17, 18]) rfl)) _ ⟨_, by omega, i + 1, _, rfl, by omega, (by rw [← hI0, show m.length - (i + 1) = n by omega]), rfl, rfl⟩ gv
 refine Run.exit ?_
 refine sr ?_
 refine asg rfl rfl ?_
 refine kp [4] rfl ?_
 refine Run.ret ?_
 exact ret_one (.tmp rfl .nil) (by rw [show m.length - i = 0 by omega] at hI0; rw [← hI0]; rfl) gv
theorem c_alone (b bm : Nat) (v w : Value) (m : List Ac) (a : Ac) (R : HP) (hR : RdS R a.na (a.need.flatMap Sb)) (hl : a.need.length ≤ 140737488355328) (hc : (a.cur.size : Int) ≤ 9223372036854775807) : AC Tryz.prog 43 ⟨[.pointer (some ⟨b, 0, none⟩), .agg ⟨a.c⟩]⟩ (stars [pt b (blk [.map (some bm), v, w] 97), amap bm acF acG m, R]) (Ret (I (aloneE m a)) [pt b (blk [.map (some bm), v, w] 97), amap bm acF acG m, R]) := by
 refine AC.go Tryz.func43 rfl (Nat.le_of_ble_eq_true rfl) fun β => ?_
 refine sr ?_
 refine RunL.op rfl rfl (OpJ.box rfl rfl fun b2 => ?_)
 refine RunL.op rfl rfl (OpJ.boxA rfl fun b3 => ?_)
 refine asg rfl rfl ?_
 refine kp [2, 3] rfl ?_
 refine sr ?_
 refine sx 2 ?_
 refine kp [3, 5] rfl ?_
 refine Run.seq ?_
 refine regionD HM ?_
 first | refine RunD.takeW 0 rfl rfl kr T78 rfl pk (by rfl) ?_ | refine RunD.takeP 0 rfl rfl kr T78 rfl pk (by simp) ?_ | refine RunD.takeE 0 rfl rfl kr T78 rfl pk (by assumption) (by exact fun _ => rfl) rfl (by decide) ?_
 refine tk 4 rfl rfl rfl (DetJ.fieldAddr F78_2 rfl) ?_
 first | refine RunD.takeF 5 rfl rfl kr T3 rfl pk (by rfl) ?_ | refine RunD.takeO 5 rfl rfl kr T3 rfl pk (by assumption) (by rfl) (by exact fun _ => rfl) ?_
 refine tk 6 rfl rfl rfl (DetJ.lss rfl rfl) ?_
 refine tk 13 rfl rfl rfl (DetJ.fieldAddr F78_4 rfl) ?_
 first | refine RunD.takeF 14 rfl rfl kr T9 rfl pk (by rfl) ?_ | refine RunD.takeO 14 rfl rfl kr T9 rfl pk (by assumption) (by rfl) (by exact fun _ => rfl) ?_
 refine tk 15 rfl rfl rfl (DetJ.neqS rfl rfl) ?_
 refine tk 23 rfl rfl rfl (DetJ.move rfl) ?_
 refine tk 24 rfl rfl rfl (DetJ.fieldAddr F78_0 rfl) ?_
 first | refine RunD.takeF 25 rfl rfl kr T9 rfl pk (by rfl) ?_ | refine RunD.takeO 25 rfl rfl kr T9 rfl pk (by assumption) (by rfl) (by exact fun _ => rfl) ?_
 refine tk 28 rfl rfl rfl (DetJ.fieldAddr F78_7 rfl) ?_
 first | refine RunD.takeF 29 rfl rfl kr T73 rfl pk (by rfl) ?_ | refine RunD.takeO 29 rfl rfl kr T73 rfl pk (by assumption) (by rfl) (by exact fun _ => rfl) ?_
 refine tk 30 rfl rfl rfl (DetJ.len S73 rfl) ?_
 refine tk 31 rfl rfl rfl (DetJ.gtr rfl rfl) ?_
 refine RunD.op 1 [true, true, true, true, true, true, true, true, true, true, true, true, true, false] rfl rfl rfl kr kr (OpJ.callRet C76 rfl rfl (c_names _ R (by assumption) (by omega)) tks ⟨po, ?_⟩)
 refine tk 2 rfl rfl rfl (DetJ.not rfl) ?_
 refine RunD.takeB 3 rfl rfl kr B144 rfl rfl fun cs hcs => ?_
 simp only [Tg.c, Ln.c, En.c, Ac.c, Cl.c, Ky.c, Qy.c, bldL, bldA, Value.cells, bs, Nat.reduceAdd, Nat.reduceLeDiff, Nat.reduceLT] at hcs; subst hcs
 refine tk 7 rfl rfl rfl (DetJ.move rfl) ?_
 by_cases hk1 : a.kind < 1
 refine RunD.set (congrArg Bo (decide_eq_true hk1)) ?_
 refine RunD.takeN 8 rfl rfl rfl rfl rfl kr ?_
 refine RunD.takeN 9 rfl rfl rfl rfl rfl kr ?_
 refine RunD.takeN 10 rfl rfl rfl rfl rfl kr ?_
 refine tk 11 rfl rfl rfl (DetJ.pickT rfl rfl) ?_
 refine RunD.set (v := Bo (decide (a.kind < 1 ∨ 5 < a.kind))) (by first | (simp [hk1]; done) | (congr 1; simp; omega)) ?_
 refine RunD.takeB 12 rfl rfl kr B144 rfl rfl fun cs hcs => ?_
 simp only [Tg.c, Ln.c, En.c, Ac.c, Cl.c, Ky.c, Qy.c, bldL, bldA, Value.cells, bs, Nat.reduceAdd, Nat.reduceLeDiff, Nat.reduceLT] at hcs; subst hcs
 refine tk 16 rfl rfl rfl (DetJ.move rfl) ?_
 by_cases hk2 : a.cur = bs0
 refine RunD.set (v := Bo false) (by rw [decide_eq_false (by simpa using hk2)]) ?_
 refine RunD.takeN 17 rfl rfl rfl rfl rfl kr ?_
 refine RunD.takeN 18 rfl rfl rfl rfl rfl kr ?_
 refine RunD.takeN 19 rfl rfl rfl rfl rfl kr ?_
 refine RunD.takeN 20 rfl rfl rfl rfl rfl kr ?_
 refine tk 21 rfl rfl rfl (DetJ.pickF rfl rfl) ?_
 refine RunD.set (v := Bo (decide (a.cur ≠ bs0) && !curB a.cur)) (by simp [hk2]) ?_
 refine RunD.takeB 22 rfl rfl kr B144 rfl rfl fun cs hcs => ?_
 simp only [Tg.c, Ln.c, En.c, Ac.c, Cl.c, Ky.c, Qy.c, bldL, bldA, Value.cells, bs, Nat.reduceAdd, Nat.reduceLeDiff, Nat.reduceLT] at hcs; subst hcs
 refine RunD.op 26 [true, true, true, false, false, false, false, true, true, true, true, true, false, true, true, true, true, true, true, false, false, false, false, true, true, true, true, true] rfl rfl rfl kr kr (OpJ.callRet C74 rfl rfl (c_has a.code b2 b bm v w m) tks ⟨po, ?_⟩)
 refine RunD.takeB 27 rfl rfl kr B144 rfl rfl fun cs hcs => ?_
 simp only [Tg.c, Ln.c, En.c, Ac.c, Cl.c, Ky.c, Qy.c, bldL, bldA, Value.cells, bs, Nat.reduceAdd, Nat.reduceLeDiff, Nat.reduceLT] at hcs; subst hcs
 refine tk 32 rfl rfl rfl (DetJ.move rfl) ?_
 by_cases hk3 : 6 < a.need.length
 refine RunD.set (congrArg Bo (decide_eq_true (by omega))) ?_
 refine RunD.takeN 33 rfl rfl rfl rfl rfl kr ?_
 refine RunD.takeN 34 rfl rfl rfl rfl rfl kr ?_
 refine RunD.takeN 35 rfl rfl rfl rfl rfl kr ?_
 refine RunD.takeN 36 rfl rfl rfl rfl rfl kr ?_
 refine tk 37 rfl rfl rfl (DetJ.pickT rfl rfl) ?_
 refine RunD.set (v := Bo (decide (6 < a.need.length) || !risB a.need)) (by simp [hk3]) ?_
 refine RunD.takeB 38 rfl rfl kr B144 rfl rfl fun cs hcs => ?_
 simp only [Tg.c, Ln.c, En.c, Ac.c, Cl.c, Ky.c, Qy.c, bldL, bldA, Value.cells, bs, Nat.reduceAdd, Nat.reduceLeDiff, Nat.reduceLT] at hcs; subst hcs
 refine RunD.op 39 [false, false, false, true, true, true, false, false, false, false, false, false, false, false, true, true, false, false, true, true, true, true, true, true, true, true, true] rfl rfl rfl kr kr (OpJ.buildSliceN (cs := (aloneR m a).flatMap Rl.c) inferInstance Z144 rfl (by decide) (by decide) rfl (by rfl) (by rfl) fun b46 => ⟨po, ?_⟩)
 refine RunD.op 40 [false, false, false, true, true, false, true, true, true, true, true, true, true, true] rfl rfl rfl kr kr (OpJ.callRet C75 rfl rfl (c_first (pt b46 (blk ((aloneR m a).flatMap Rl.c) 144)) b46 5 (aloneR m a) Rd.whole (by simp [aloneR])) tks ⟨po, ?_⟩)
 refine tk 41 rfl rfl rfl (DetJ.assign rfl) ?_
 refine kd [4] rfl ?_
 refine Run.ret ?_
 exact ret_one (.tmp rfl .nil) (rfl) gv
 refine RunD.set (congrArg Bo (decide_eq_false (by omega))) ?_
 refine RunD.takeG 33 rfl rfl rfl rfl rfl kr (DetJ.fieldAddr F78_7 rfl) .nil ?_
 first | refine RunD.takeGF 34 rfl rfl rfl rfl kr T73 rfl pk (by rfl) ?_ | refine RunD.takeGO 34 rfl rfl rfl rfl kr T73 rfl pk (by assumption) (by rfl) (by exact fun _ => rfl) ?_
 refine RunD.opG 35 [false, false, false, true, true, true, true, true, true, true, true, true, true, true, false, false, true, true, true, true, true, true, true] rfl rfl rfl rfl rfl kr kr (OpJ.callRet C77 rfl rfl (c_rising R _ _ _ (by assumption) (by omega)) tks ⟨po, ?_⟩)
 refine RunD.takeG 36 rfl rfl rfl rfl rfl kr (DetJ.not rfl) .nil ?_
 refine tk 37 rfl rfl rfl (DetJ.pickF rfl rfl) ?_
 refine RunD.set (v := Bo (decide (6 < a.need.length) || !risB a.need)) (by simp [hk3]) ?_
 refine RunD.takeB 38 rfl rfl kr B144 rfl rfl fun cs hcs => ?_
 simp only [Tg.c, Ln.c, En.c, Ac.c, Cl.c, Ky.c, Qy.c, bldL, bldA, Value.cells, bs, Nat.reduceAdd, Nat.reduceLeDiff, Nat.reduceLT] at hcs; subst hcs
 refine RunD.op 39 [false, false, false, false, false, false, false, false, false, false, true, true, false, false, true, true, true, true, true, true, true] rfl rfl rfl kr kr (OpJ.buildSliceN (cs := (aloneR m a).flatMap Rl.c) inferInstance Z144 rfl (by decide) (by decide) rfl (by rfl) (by rfl) fun b46 => ⟨po, ?_⟩)
 refine RunD.op 40 [true, true, true, true, true, true, true, true, true] rfl rfl rfl kr kr (OpJ.callRet C75 rfl rfl (c_first (pt b46 (blk ((aloneR m a).flatMap Rl.c) 144)) b46 5 (aloneR m a) Rd.whole (by simp [aloneR])) tks ⟨po, ?_⟩)
 refine tk 41 rfl rfl rfl (DetJ.assign rfl) ?_
 refine kd [4] rfl ?_
 refine Run.ret ?_
 exact ret_one (.tmp rfl .nil) (rfl) gv
 refine RunD.set (v := Bo true) (by rw [decide_eq_true (by simpa using hk2)]) ?_
 refine RunD.takeG 17 rfl rfl rfl rfl rfl kr (DetJ.fieldAddr F78_4 rfl) .nil ?_
 first | refine RunD.takeGF 18 rfl rfl rfl rfl kr T9 rfl pk (by rfl) ?_ | refine RunD.takeGO 18 rfl rfl rfl rfl kr T9 rfl pk (by assumption) (by rfl) (by exact fun _ => rfl) ?_
 refine RunD.opG 19 [false, false, false, true, true, true, true, true, false, true, true, true, true, true, true, true, true, true, false, false, true, false, true, true] rfl rfl rfl rfl rfl kr kr (OpJ.callRet C47 rfl rfl (c_Cur _ hc) .nil ⟨po, ?_⟩)
 refine RunD.takeG 20 rfl rfl rfl rfl rfl kr (DetJ.not rfl) .nil ?_
 refine tk 21 rfl rfl rfl (DetJ.pickT rfl rfl) ?_
 refine RunD.set (v := Bo (decide (a.cur ≠ bs0) && !curB a.cur)) (by simp [hk2]) ?_
 refine RunD.takeB 22 rfl rfl kr B144 rfl rfl fun cs hcs => ?_
 simp only [Tg.c, Ln.c, En.c, Ac.c, Cl.c, Ky.c, Qy.c, bldL, bldA, Value.cells, bs, Nat.reduceAdd, Nat.reduceLeDiff, Nat.reduceLT] at hcs; subst hcs
 refine RunD.op 26 [true, true, true, true, true, true, true, true, true, true, true, true, true, true, false, false, false, true, true, true] rfl rfl rfl kr kr (OpJ.callRet C74 rfl rfl (c_has a.code b2 b bm v w m) tks ⟨po, ?_⟩)
 refine RunD.takeB 27 rfl rfl kr B144 rfl rfl fun cs hcs => ?_
 simp only [Tg.c, Ln.c, En.c, Ac.c, Cl.c, Ky.c, Qy.c, bldL, bldA, Value.cells, bs, Nat.reduceAdd, Nat.reduceLeDiff, Nat.reduceLT] at hcs; subst hcs
 refine tk 32 rfl rfl rfl (DetJ.move rfl) ?_
 by_cases hk3 : 6 < a.need.length
 refine RunD.set (congrArg Bo (decide_eq_true (by omega))) ?_
 refine RunD.takeN 33 rfl rfl rfl rfl rfl kr ?_
 refine RunD.takeN 34 rfl rfl rfl rfl rfl kr ?_
 refine RunD.takeN 35 rfl rfl rfl rfl rfl kr ?_
 refine RunD.takeN 36 rfl rfl rfl rfl rfl kr ?_
 refine tk 37 rfl rfl rfl (DetJ.pickT rfl rfl) ?_
 refine RunD.set (v := Bo (decide (6 < a.need.length) || !risB a.need)) (by simp [hk3]) ?_
 refine RunD.takeB 38 rfl rfl kr B144 rfl rfl fun cs hcs => ?_
 simp only [Tg.c, Ln.c, En.c, Ac.c, Cl.c, Ky.c, Qy.c, bldL, bldA, Value.cells, bs, Nat.reduceAdd, Nat.reduceLeDiff, Nat.reduceLT] at hcs; subst hcs
 refine RunD.op 39 [false, false, false, true, true, true, false, false, false, false, false, false, false, false, true, true, false, false, true, true, true, true, true, true, true] rfl rfl rfl kr kr (OpJ.buildSliceN (cs := (aloneR m a).flatMap Rl.c) inferInstance Z144 rfl (by decide) (by decide) rfl (by rfl) (by rfl) fun b46 => ⟨po, ?_⟩)
 refine RunD.op 40 [false, false, false, true, true, false, true, true, true, true, true, true] rfl rfl rfl kr kr (OpJ.callRet C75 rfl rfl (c_first (pt b46 (blk ((aloneR m a).flatMap Rl.c) 144)) b46 5 (aloneR m a) Rd.whole (by simp [aloneR])) tks ⟨po, ?_⟩)
 refine tk 41 rfl rfl rfl (DetJ.assign rfl) ?_
 refine kd [4] rfl ?_
 refine Run.ret ?_
 exact ret_one (.tmp rfl .nil) (rfl) gv
 refine RunD.set (congrArg Bo (decide_eq_false (by omega))) ?_
 refine RunD.takeG 33 rfl rfl rfl rfl rfl kr (DetJ.fieldAddr F78_7 rfl) .nil ?_
 first | refine RunD.takeGF 34 rfl rfl rfl rfl kr T73 rfl pk (by rfl) ?_ | refine RunD.takeGO 34 rfl rfl rfl rfl kr T73 rfl pk (by assumption) (by rfl) (by exact fun _ => rfl) ?_
 refine RunD.opG 35 [false, false, false, true, true, true, true, true, true, true, true, true, true, true, false, false, true, true, true, true, true] rfl rfl rfl rfl rfl kr kr (OpJ.callRet C77 rfl rfl (c_rising R _ _ _ (by assumption) (by omega)) tks ⟨po, ?_⟩)
 refine RunD.takeG 36 rfl rfl rfl rfl rfl kr (DetJ.not rfl) .nil ?_
 refine tk 37 rfl rfl rfl (DetJ.pickF rfl rfl) ?_
 refine RunD.set (v := Bo (decide (6 < a.need.length) || !risB a.need)) (by simp [hk3]) ?_
 refine RunD.takeB 38 rfl rfl kr B144 rfl rfl fun cs hcs => ?_
 simp only [Tg.c, Ln.c, En.c, Ac.c, Cl.c, Ky.c, Qy.c, bldL, bldA, Value.cells, bs, Nat.reduceAdd, Nat.reduceLeDiff, Nat.reduceLT] at hcs; subst hcs
 refine RunD.op 39 [false, false, false, false, false, false, false, false, false, false, true, true, false, false, true, true, true, true, true] rfl rfl rfl kr kr (OpJ.buildSliceN (cs := (aloneR m a).flatMap Rl.c) inferInstance Z144 rfl (by decide) (by decide) rfl (by rfl) (by rfl) fun b46 => ⟨po, ?_⟩)
 refine RunD.op 40 [true, true, true, true, true, true, true] rfl rfl rfl kr kr (OpJ.callRet C75 rfl rfl (c_first (pt b46 (blk ((aloneR m a).flatMap Rl.c) 144)) b46 5 (aloneR m a) Rd.whole (by simp [aloneR])) tks ⟨po, ?_⟩)
 refine tk 41 rfl rfl rfl (DetJ.assign rfl) ?_
 refine kd [4] rfl ?_
 refine Run.ret ?_
 exact ret_one (.tmp rfl .nil) (rfl) gv
 refine RunD.set (congrArg Bo (decide_eq_false hk1)) ?_
 refine RunD.takeG 8 rfl rfl rfl rfl rfl kr (DetJ.fieldAddr F78_2 rfl) .nil ?_
 first | refine RunD.takeGF 9 rfl rfl rfl rfl kr T3 rfl pk (by rfl) ?_ | refine RunD.takeGO 9 rfl rfl rfl rfl kr T3 rfl pk (by assumption) (by rfl) (by exact fun _ => rfl) ?_
 refine RunD.takeG 10 rfl rfl rfl rfl rfl kr (DetJ.gtr rfl rfl) .nil ?_
 refine tk 11 rfl rfl rfl (DetJ.pickF rfl rfl) ?_
 refine RunD.set (v := Bo (decide (a.kind < 1 ∨ 5 < a.kind))) (by first | (simp [hk1]; done) | (congr 1; simp; omega)) ?_
 refine RunD.takeB 12 rfl rfl kr B144 rfl rfl fun cs hcs => ?_
 simp only [Tg.c, Ln.c, En.c, Ac.c, Cl.c, Ky.c, Qy.c, bldL, bldA, Value.cells, bs, Nat.reduceAdd, Nat.reduceLeDiff, Nat.reduceLT] at hcs; subst hcs
 refine tk 16 rfl rfl rfl (DetJ.move rfl) ?_
 by_cases hk2 : a.cur = bs0
 refine RunD.set (v := Bo false) (by rw [decide_eq_false (by simpa using hk2)]) ?_
 refine RunD.takeN 17 rfl rfl rfl rfl rfl kr ?_
 refine RunD.takeN 18 rfl rfl rfl rfl rfl kr ?_
 refine RunD.takeN 19 rfl rfl rfl rfl rfl kr ?_
 refine RunD.takeN 20 rfl rfl rfl rfl rfl kr ?_
 refine tk 21 rfl rfl rfl (DetJ.pickF rfl rfl) ?_
 refine RunD.set (v := Bo (decide (a.cur ≠ bs0) && !curB a.cur)) (by simp [hk2]) ?_
 refine RunD.takeB 22 rfl rfl kr B144 rfl rfl fun cs hcs => ?_
 simp only [Tg.c, Ln.c, En.c, Ac.c, Cl.c, Ky.c, Qy.c, bldL, bldA, Value.cells, bs, Nat.reduceAdd, Nat.reduceLeDiff, Nat.reduceLT] at hcs; subst hcs
 refine RunD.op 26 [true, true, true, false, false, false, false, true, true, true, true, true, false, true, true, true, true, true, true, false, false, false, false, true, true, true, true, true] rfl rfl rfl kr kr (OpJ.callRet C74 rfl rfl (c_has a.code b2 b bm v w m) tks ⟨po, ?_⟩)
 refine RunD.takeB 27 rfl rfl kr B144 rfl rfl fun cs hcs => ?_
 simp only [Tg.c, Ln.c, En.c, Ac.c, Cl.c, Ky.c, Qy.c, bldL, bldA, Value.cells, bs, Nat.reduceAdd, Nat.reduceLeDiff, Nat.reduceLT] at hcs; subst hcs
 refine tk 32 rfl rfl rfl (DetJ.move rfl) ?_
 by_cases hk3 : 6 < a.need.length
 refine RunD.set (congrArg Bo (decide_eq_true (by omega))) ?_
 refine RunD.takeN 33 rfl rfl rfl rfl rfl kr ?_
 refine RunD.takeN 34 rfl rfl rfl rfl rfl kr ?_
 refine RunD.takeN 35 rfl rfl rfl rfl rfl kr ?_
 refine RunD.takeN 36 rfl rfl rfl rfl rfl kr ?_
 refine tk 37 rfl rfl rfl (DetJ.pickT rfl rfl) ?_
 refine RunD.set (v := Bo (decide (6 < a.need.length) || !risB a.need)) (by simp [hk3]) ?_
 refine RunD.takeB 38 rfl rfl kr B144 rfl rfl fun cs hcs => ?_
 simp only [Tg.c, Ln.c, En.c, Ac.c, Cl.c, Ky.c, Qy.c, bldL, bldA, Value.cells, bs, Nat.reduceAdd, Nat.reduceLeDiff, Nat.reduceLT] at hcs; subst hcs
 refine RunD.op 39 [false, false, false, true, true, true, false, false, false, false, false, false, false, false, true, true, false, false, true, true, true, true, true, true, true, true, true] rfl rfl rfl kr kr (OpJ.buildSliceN (cs := (aloneR m a).flatMap Rl.c) inferInstance Z144 rfl (by decide) (by decide) rfl (by rfl) (by rfl) fun b46 => ⟨po, ?_⟩)
 refine RunD.op 40 [false, false, false, true, true, false, true, true, true, true, true, true, true, true] rfl rfl rfl kr kr (OpJ.callRet C75 rfl rfl (c_first (pt b46 (blk ((aloneR m a).flatMap Rl.c) 144)) b46 5 (aloneR m a) Rd.whole (by simp [aloneR])) tks ⟨po, ?_⟩)
 refine tk 41 rfl rfl rfl (DetJ.assign rfl) ?_
 refine kd [4] rfl ?_
 refine Run.ret ?_
 exact ret_one (.tmp rfl .nil) (rfl) gv
 refine RunD.set (congrArg Bo (decide_eq_false (by omega))) ?_
 refine RunD.takeG 33 rfl rfl rfl rfl rfl kr (DetJ.fieldAddr F78_7 rfl) .nil ?_
 first | refine RunD.takeGF 34 rfl rfl rfl rfl kr T73 rfl pk (by rfl) ?_ | refine RunD.takeGO 34 rfl rfl rfl rfl kr T73 rfl pk (by assumption) (by rfl) (by exact fun _ => rfl) ?_
 refine RunD.opG 35 [false, false, false, true, true, true, true, true, true, true, true, true, true, true, false, false, true, true, true, true, true, true, true] rfl rfl rfl rfl rfl kr kr (OpJ.callRet C77 rfl rfl (c_rising R _ _ _ (by assumption) (by omega)) tks ⟨po, ?_⟩)
 refine RunD.takeG 36 rfl rfl rfl rfl rfl kr (DetJ.not rfl) .nil ?_
 refine tk 37 rfl rfl rfl (DetJ.pickF rfl rfl) ?_
 refine RunD.set (v := Bo (decide (6 < a.need.length) || !risB a.need)) (by simp [hk3]) ?_
 refine RunD.takeB 38 rfl rfl kr B144 rfl rfl fun cs hcs => ?_
 simp only [Tg.c, Ln.c, En.c, Ac.c, Cl.c, Ky.c, Qy.c, bldL, bldA, Value.cells, bs, Nat.reduceAdd, Nat.reduceLeDiff, Nat.reduceLT] at hcs; subst hcs
 refine RunD.op 39 [false, false, false, false, false, false, false, false, false, false, true, true, false, false, true, true, true, true, true, true, true] rfl rfl rfl kr kr (OpJ.buildSliceN (cs := (aloneR m a).flatMap Rl.c) inferInstance Z144 rfl (by decide) (by decide) rfl (by rfl) (by rfl) fun b46 => ⟨po, ?_⟩)
 refine RunD.op 40 [true, true, true, true, true, true, true, true, true] rfl rfl rfl kr kr (OpJ.callRet C75 rfl rfl (c_first (pt b46 (blk ((aloneR m a).flatMap Rl.c) 144)) b46 5 (aloneR m a) Rd.whole (by simp [aloneR])) tks ⟨po, ?_⟩)
 refine tk 41 rfl rfl rfl (DetJ.assign rfl) ?_
 refine kd [4] rfl ?_
 refine Run.ret ?_
 exact ret_one (.tmp rfl .nil) (rfl) gv
 refine RunD.set (v := Bo true) (by rw [decide_eq_true (by simpa using hk2)]) ?_
 refine RunD.takeG 17 rfl rfl rfl rfl rfl kr (DetJ.fieldAddr F78_4 rfl) .nil ?_
 first | refine RunD.takeGF 18 rfl rfl rfl rfl kr T9 rfl pk (by rfl) ?_ | refine RunD.takeGO 18 rfl rfl rfl rfl kr T9 rfl pk (by assumption) (by rfl) (by exact fun _ => rfl) ?_
 refine RunD.opG 19 [false, false, false, true, true, true, true, true, false, true, true, true, true, true, true, true, true, true, false, false, true, false, true, true] rfl rfl rfl rfl rfl kr kr (OpJ.callRet C47 rfl rfl (c_Cur _ hc) .nil ⟨po, ?_⟩)
 refine RunD.takeG 20 rfl rfl rfl rfl rfl kr (DetJ.not rfl) .nil ?_
 refine tk 21 rfl rfl rfl (DetJ.pickT rfl rfl) ?_
 refine RunD.set (v := Bo (decide (a.cur ≠ bs0) && !curB a.cur)) (by simp [hk2]) ?_
 refine RunD.takeB 22 rfl rfl kr B144 rfl rfl fun cs hcs => ?_
 simp only [Tg.c, Ln.c, En.c, Ac.c, Cl.c, Ky.c, Qy.c, bldL, bldA, Value.cells, bs, Nat.reduceAdd, Nat.reduceLeDiff, Nat.reduceLT] at hcs; subst hcs
 refine RunD.op 26 [true, true, true, true, true, true, true, true, true, true, true, true, true, true, false, false, false, true, true, true] rfl rfl rfl kr kr (OpJ.callRet C74 rfl rfl (c_has a.code b2 b bm v w m) tks ⟨po, ?_⟩)
 refine RunD.takeB 27 rfl rfl kr B144 rfl rfl fun cs hcs => ?_
 simp only [Tg.c, Ln.c, En.c, Ac.c, Cl.c, Ky.c, Qy.c, bldL, bldA, Value.cells, bs, Nat.reduceAdd, Nat.reduceLeDiff, Nat.reduceLT] at hcs; subst hcs
 refine tk 32 rfl rfl rfl (DetJ.move rfl) ?_
 by_cases hk3 : 6 < a.need.length
 refine RunD.set (congrArg Bo (decide_eq_true (by omega))) ?_
 refine RunD.takeN 33 rfl rfl rfl rfl rfl kr ?_
 refine RunD.takeN 34 rfl rfl rfl rfl rfl kr ?_
 refine RunD.takeN 35 rfl rfl rfl rfl rfl kr ?_
 refine RunD.takeN 36 rfl rfl rfl rfl rfl kr ?_
 refine tk 37 rfl rfl rfl (DetJ.pickT rfl rfl) ?_
 refine RunD.set (v := Bo (decide (6 < a.need.length) || !risB a.need)) (by simp [hk3]) ?_
 refine RunD.takeB 38 rfl rfl kr B144 rfl rfl fun cs hcs => ?_
 simp only [Tg.c, Ln.c, En.c, Ac.c, Cl.c, Ky.c, Qy.c, bldL, bldA, Value.cells, bs, Nat.reduceAdd, Nat.reduceLeDiff, Nat.reduceLT] at hcs; subst hcs
 refine RunD.op 39 [false, false, false, true, true, true, false, false, false, false, false, false, false, false, true, true, false, false, true, true, true, true, true, true, true] rfl rfl rfl kr kr (OpJ.buildSliceN (cs := (aloneR m a).flatMap Rl.c) inferInstance Z144 rfl (by decide) (by decide) rfl (by rfl) (by rfl) fun b46 => ⟨po, ?_⟩)
 refine RunD.op 40 [false, false, false, true, true, false, true, true, true, true, true, true] rfl rfl rfl kr kr (OpJ.callRet C75 rfl rfl (c_first (pt b46 (blk ((aloneR m a).flatMap Rl.c) 144)) b46 5 (aloneR m a) Rd.whole (by simp [aloneR])) tks ⟨po, ?_⟩)
 refine tk 41 rfl rfl rfl (DetJ.assign rfl) ?_
 refine kd [4] rfl ?_
 refine Run.ret ?_
 exact ret_one (.tmp rfl .nil) (rfl) gv
 refine RunD.set (congrArg Bo (decide_eq_false (by omega))) ?_
 refine RunD.takeG 33 rfl rfl rfl rfl rfl kr (DetJ.fieldAddr F78_7 rfl) .nil ?_
 first | refine RunD.takeGF 34 rfl rfl rfl rfl kr T73 rfl pk (by rfl) ?_ | refine RunD.takeGO 34 rfl rfl rfl rfl kr T73 rfl pk (by assumption) (by rfl) (by exact fun _ => rfl) ?_
 refine RunD.opG 35 [false, false, false, true, true, true, true, true, true, true, true, true, true, true, false, false, true, true, true, true, true] rfl rfl rfl rfl rfl kr kr (OpJ.callRet C77 rfl rfl (c_rising R _ _ _ (by assumption) (by omega)) tks ⟨po, ?_⟩)
 refine RunD.takeG 36 rfl rfl rfl rfl rfl kr (DetJ.not rfl) .nil ?_
 refine tk 37 rfl rfl rfl (DetJ.pickF rfl rfl) ?_
 refine RunD.set (v := Bo (decide (6 < a.need.length) || !risB a.need)) (by simp [hk3]) ?_
 refine RunD.takeB 38 rfl rfl kr B144 rfl rfl fun cs hcs => ?_
 simp only [Tg.c, Ln.c, En.c, Ac.c, Cl.c, Ky.c, Qy.c, bldL, bldA, Value.cells, bs, Nat.reduceAdd, Nat.reduceLeDiff, Nat.reduceLT] at hcs; subst hcs
 refine RunD.op 39 [false, false, false, false, false, false, false, false, false, false, true, true, false, false, true, true, true, true, true] rfl rfl rfl kr kr (OpJ.buildSliceN (cs := (aloneR m a).flatMap Rl.c) inferInstance Z144 rfl (by decide) (by decide) rfl (by rfl) (by rfl) fun b46 => ⟨po, ?_⟩)
 refine RunD.op 40 [true, true, true, true, true, true, true] rfl rfl rfl kr kr (OpJ.callRet C75 rfl rfl (c_first (pt b46 (blk ((aloneR m a).flatMap Rl.c) 144)) b46 5 (aloneR m a) Rd.whole (by simp [aloneR])) tks ⟨po, ?_⟩)
 refine tk 41 rfl rfl rfl (DetJ.assign rfl) ?_
 refine kd [4] rfl ?_
 refine Run.ret ?_
 exact ret_one (.tmp rfl .nil) (rfl) gv
theorem c_below (b bm : Nat) (v w : Value) (m : List Ac) (a : Ac) (hl : m.length ≤ 400) : AC Tryz.prog 45 ⟨[.pointer (some ⟨b, 0, none⟩), .agg ⟨a.c⟩]⟩ (stars [pt b (blk [.map (some bm), v, w] 97), amap bm acF acG m]) (Ret (I (belowE m a)) [pt b (blk [.map (some bm), v, w] 97), amap bm acF acG m]) := by
 refine AC.go Tryz.func45 rfl (Nat.le_of_ble_eq_true rfl) fun β => ?_
 refine sr ?_
 refine RunL.op rfl rfl (OpJ.boxA rfl fun b3 => ?_)
 refine asg rfl rfl ?_
 refine kp [0, 3] rfl ?_
 refine Run.seq ?_
 refine sr ?_
 refine sx 3 ?_
 refine kp [0, 3, 9] rfl ?_
 first | refine Run.if rfl (fun h1 => ?_) (fun h1 => ?_) | refine Run.cond rfl (fun h1 => ?_) (fun h1 => ?_)
 refine sr ?_
 refine asg rfl rfl ?_
 refine kp [4] rfl ?_
 refine Run.ret ?_
 exact ret_one (.tmp rfl .nil) (by unfold belowE; rw [if_pos (by simpa using h1)]; rfl) gv
 refine Run.skip ?_
 refine Run.seq ?_
 refine regionD HM ?_
 refine tk 0 rfl rfl rfl (DetJ.move rfl) ?_
 refine tk 1 rfl rfl rfl (DetJ.nilCheck rfl) ?_
 refine tk 2 rfl rfl rfl (DetJ.fieldAddr F97_0 rfl) ?_
 first | refine RunD.takeF 3 rfl rfl kr T94 rfl pk (by rfl) ?_ | refine RunD.takeO 3 rfl rfl kr T94 rfl pk (by assumption) (by rfl) (by exact fun _ => rfl) ?_
 refine tk 4 rfl rfl rfl (DetJ.fieldAddr F78_1 rfl) ?_
 first | refine RunD.takeF 5 rfl rfl kr T9 rfl pk (by rfl) ?_ | refine RunD.takeO 5 rfl rfl kr T9 rfl pk (by assumption) (by rfl) (by exact fun _ => rfl) ?_
 refine RunD.two 6 10 [false, false, false, false, false, true] [true, true, true, true, true, true] rfl rfl rfl rfl rfl rfl kr kr kr (OpJ.lookupA2 inferInstance inferInstance inferInstance rfl rfl pk ⟨po, ?_⟩) (OpJ.alloc Z78 fun b5 => ⟨po, ?_⟩)
 refine tk 7 rfl rfl rfl (DetJ.move rfl) ?_
 refine tk 8 rfl rfl rfl (DetJ.extract rfl rfl) ?_
 refine tk 9 rfl rfl rfl (DetJ.extract rfl rfl) ?_
 refine RunD.op 10 [true, true, true, true] rfl rfl rfl kr kr (OpJ.alloc Z78 fun b5 => ⟨po, ?_⟩)
 refine RunD.op 11 [true, false, false, false] rfl rfl rfl kr kr (OpJ.storeW T78 rfl rfl rfl rfl (by simp [Value.oneCell', Tg.c, Ln.c, En.c, Ac.c, Cl.c, Ky.c, Qy.c, Sb, Iv]) up ⟨po, ?_⟩)
 refine tk 12 rfl rfl rfl (DetJ.assign rfl) ?_
 refine kd [0, 3, 5, 6] rfl ?_
 refine Run.seq ?_
 refine regionD HM ?_
 refine tk 0 rfl rfl rfl (DetJ.move rfl) ?_
 refine tk 1 rfl rfl rfl (DetJ.not rfl) ?_
 refine RunD.takeB 2 rfl rfl kr B144 rfl rfl fun cs hcs => ?_
 simp only [Tg.c, Ln.c, En.c, Ac.c, Cl.c, Ky.c, Qy.c, bldL, bldA, Value.cells, bs, Nat.reduceAdd, Nat.reduceLeDiff, Nat.reduceLT] at hcs; subst hcs
 refine tk 3 rfl rfl rfl (DetJ.fieldAddr F78_2 rfl) ?_
 first | refine RunD.takeF 4 rfl rfl kr T3 rfl pk (by rfl) ?_ | refine RunD.takeO 4 rfl rfl kr T3 rfl pk (by assumption) (by rfl) (by exact fun _ => rfl) ?_
 refine tk 5 rfl rfl rfl (DetJ.fieldAddr F78_2 rfl) ?_
 first | refine RunD.takeF 6 rfl rfl kr T3 rfl pk (by rfl) ?_ | refine RunD.takeO 6 rfl rfl kr T3 rfl pk (by assumption) (by rfl) (by exact fun _ => rfl) ?_
 refine tk 7 rfl rfl rfl (DetJ.neq rfl rfl) ?_
 refine RunD.takeB 8 rfl rfl kr B144 rfl rfl fun cs hcs => ?_
 simp only [Tg.c, Ln.c, En.c, Ac.c, Cl.c, Ky.c, Qy.c, bldL, bldA, Value.cells, bs, Nat.reduceAdd, Nat.reduceLeDiff, Nat.reduceLT] at hcs; subst hcs
 refine tk 9 rfl rfl rfl (DetJ.fieldAddr F78_3 rfl) ?_
 first | refine RunD.takeF 10 rfl rfl kr T4 rfl pk (by rfl) ?_ | refine RunD.takeO 10 rfl rfl kr T4 rfl pk (by assumption) (by rfl) (by exact fun _ => rfl) ?_
 refine RunD.takeB 11 rfl rfl kr B144 rfl rfl fun cs hcs => ?_
 simp only [Tg.c, Ln.c, En.c, Ac.c, Cl.c, Ky.c, Qy.c, bldL, bldA, Value.cells, bs, Nat.reduceAdd, Nat.reduceLeDiff, Nat.reduceLT] at hcs; subst hcs
 refine tk 12 rfl rfl rfl (DetJ.move rfl) ?_
 refine tk 13 rfl rfl rfl (DetJ.fieldAddr F78_0 rfl) ?_
 first | refine RunD.takeF 14 rfl rfl kr T9 rfl pk (by rfl) ?_ | refine RunD.takeO 14 rfl rfl kr T9 rfl pk (by assumption) (by rfl) (by exact fun _ => rfl) ?_
 refine RunD.op 15 [false, false, false, true, true, true, true, true, true, true, true, true, true, true, true] rfl rfl rfl kr kr (OpJ.callRet C79 rfl rfl (c_circular b bm v w m _ (by omega)) tks ⟨po, ?_⟩)
 refine RunD.takeB 16 rfl rfl kr B144 rfl rfl fun cs hcs => ?_
 simp only [Tg.c, Ln.c, En.c, Ac.c, Cl.c, Ky.c, Qy.c, bldL, bldA, Value.cells, bs, Nat.reduceAdd, Nat.reduceLeDiff, Nat.reduceLT] at hcs; subst hcs
 refine RunD.op 17 [false, false, false, false, false, false, false, true, false, true, false, false, false] rfl rfl rfl kr kr (OpJ.buildSliceN (cs := (belowR m a).flatMap Rl.c) inferInstance Z144 rfl (by decide) (by decide) rfl (by rfl) (by rfl) fun b37 => ⟨po, ?_⟩)
 refine RunD.op 18 [true, true] rfl rfl rfl kr kr (OpJ.callRet C75 rfl rfl (c_first (pt b37 (blk ((belowR m a).flatMap Rl.c) 144)) b37 4 (belowR m a) Rd.whole (by simp [belowR])) tks ⟨po, ?_⟩)
 refine tk 19 rfl rfl rfl (DetJ.assign rfl) ?_
 refine kd [4] rfl ?_
 refine Run.ret ?_
 exact ret_one (.tmp rfl .nil) (by unfold belowE; rw [if_neg (by simpa using h1)]; rfl) gv
 refine RunD.op 6 [false, false, false, false, false, true] rfl rfl rfl kr kr (OpJ.lookupA2 inferInstance inferInstance inferInstance rfl rfl pk ⟨po, ?_⟩)
 refine tk 7 rfl rfl rfl (DetJ.move rfl) ?_
 refine tk 8 rfl rfl rfl (DetJ.extract rfl rfl) ?_
 refine tk 9 rfl rfl rfl (DetJ.extract rfl rfl) ?_
 refine RunD.op 11 [true, false, false, false] rfl rfl rfl kr kr (OpJ.storeW T78 rfl rfl rfl rfl (by simp [Value.oneCell', Tg.c, Ln.c, En.c, Ac.c, Cl.c, Ky.c, Qy.c, Sb, Iv]) up ⟨po, ?_⟩)
 refine tk 12 rfl rfl rfl (DetJ.assign rfl) ?_
 refine kd [0, 3, 5, 6] rfl ?_
 refine Run.seq ?_
 refine regionD HM ?_
 refine tk 0 rfl rfl rfl (DetJ.move rfl) ?_
 refine tk 1 rfl rfl rfl (DetJ.not rfl) ?_
 refine RunD.takeB 2 rfl rfl kr B144 rfl rfl fun cs hcs => ?_
 simp only [Tg.c, Ln.c, En.c, Ac.c, Cl.c, Ky.c, Qy.c, bldL, bldA, Value.cells, bs, Nat.reduceAdd, Nat.reduceLeDiff, Nat.reduceLT] at hcs; subst hcs
 refine tk 3 rfl rfl rfl (DetJ.fieldAddr F78_2 rfl) ?_
 first | refine RunD.takeF 4 rfl rfl kr T3 rfl pk (by rfl) ?_ | refine RunD.takeO 4 rfl rfl kr T3 rfl pk (by assumption) (by rfl) (by exact fun _ => rfl) ?_
 refine tk 5 rfl rfl rfl (DetJ.fieldAddr F78_2 rfl) ?_
 first | refine RunD.takeF 6 rfl rfl kr T3 rfl pk (by rfl) ?_ | refine RunD.takeO 6 rfl rfl kr T3 rfl pk (by assumption) (by rfl) (by exact fun _ => rfl) ?_
 refine tk 7 rfl rfl rfl (DetJ.neq rfl rfl) ?_
 refine RunD.takeB 8 rfl rfl kr B144 rfl rfl fun cs hcs => ?_
 simp only [Tg.c, Ln.c, En.c, Ac.c, Cl.c, Ky.c, Qy.c, bldL, bldA, Value.cells, bs, Nat.reduceAdd, Nat.reduceLeDiff, Nat.reduceLT] at hcs; subst hcs
 refine tk 9 rfl rfl rfl (DetJ.fieldAddr F78_3 rfl) ?_
 first | refine RunD.takeF 10 rfl rfl kr T4 rfl pk (by rfl) ?_ | refine RunD.takeO 10 rfl rfl kr T4 rfl pk (by assumption) (by rfl) (by exact fun _ => rfl) ?_
 refine RunD.takeB 11 rfl rfl kr B144 rfl rfl fun cs hcs => ?_
 simp only [Tg.c, Ln.c, En.c, Ac.c, Cl.c, Ky.c, Qy.c, bldL, bldA, Value.cells, bs, Nat.reduceAdd, Nat.reduceLeDiff, Nat.reduceLT] at hcs; subst hcs
 refine tk 12 rfl rfl rfl (DetJ.move rfl) ?_
 refine tk 13 rfl rfl rfl (DetJ.fieldAddr F78_0 rfl) ?_
 first | refine RunD.takeF 14 rfl rfl kr T9 rfl pk (by rfl) ?_ | refine RunD.takeO 14 rfl rfl kr T9 rfl pk (by assumption) (by rfl) (by exact fun _ => rfl) ?_
 refine RunD.op 15 [false, false, false, true, true, true, true, true, true, true, true, true, true, true, true] rfl rfl rfl kr kr (OpJ.callRet C79 rfl rfl (c_circular b bm v w m _ (by omega)) tks ⟨po, ?_⟩)
 refine RunD.takeB 16 rfl rfl kr B144 rfl rfl fun cs hcs => ?_
 simp only [Tg.c, Ln.c, En.c, Ac.c, Cl.c, Ky.c, Qy.c, bldL, bldA, Value.cells, bs, Nat.reduceAdd, Nat.reduceLeDiff, Nat.reduceLT] at hcs; subst hcs
 refine RunD.op 17 [false, false, false, false, false, false, false, true, false, true, false, false, false] rfl rfl rfl kr kr (OpJ.buildSliceN (cs := (belowR m a).flatMap Rl.c) inferInstance Z144 rfl (by decide) (by decide) rfl (by rfl) (by rfl) fun b37 => ⟨po, ?_⟩)
 refine RunD.op 18 [true, true] rfl rfl rfl kr kr (OpJ.callRet C75 rfl rfl (c_first (pt b37 (blk ((belowR m a).flatMap Rl.c) 144)) b37 4 (belowR m a) Rd.whole (by simp [belowR])) tks ⟨po, ?_⟩)
 refine tk 19 rfl rfl rfl (DetJ.assign rfl) ?_
 refine kd [4] rfl ?_
 refine Run.ret ?_
 exact ret_one (.tmp rfl .nil) (by unfold belowE; rw [if_neg (by simpa using h1)]; rfl) gv
end
def lSortRen : Go.Shelf.Ren := { f := fun x => match x with | 190 => 80 | 125 => 113 | 258 => 112 | 128 => 155 | 129 => 156 | 302 => 146 | 303 => 147 | 304 => 148 | 305 => 149 | 306 => 150 | 307 => 151 | 308 => 152 | 309 => 153 | 310 => 154 | 333 => 176 | 329 => 177 | 330 => 178 | 334 => 179 | 335 => 180 | 336 => 181 | 344 => 187 | n => n, t := fun x => match x with | 31 => 73 | 9 => 9 | 3 => 3 | 46 => 129 | 0 => 0 | 51 => 216 | 53 => 133 | 4 => 4 | 183 => 209 | 182 => 208 | 131 => 87 | 5 => 5 | 218 => 231 | 222 => 235 | 228 => 240 | 229 => 52 | n => n, g := fun x => x }
open Go.Shelf Go.Lib in
theorem lSort : Go.Proofs.Lays.n190 Tryz.prog lSortRen :=
  { mixed := by kernel_rfl, f125 := Eq.trans Tryz.func113 (congrArg some (by kernel_rfl)), f128 := Eq.trans Tryz.func155 (congrArg some (by kernel_rfl)), f129 := Eq.trans Tryz.func156 (congrArg some (by kernel_rfl)), f190 := Eq.trans Tryz.func80 (congrArg some (by kernel_rfl)), f258 := Eq.trans Tryz.func112 (congrArg some (by kernel_rfl)), f302 := Eq.trans Tryz.func146 (congrArg some (by kernel_rfl)), f303 := Eq.trans Tryz.func147 (congrArg some (by kernel_rfl)), f304 := Eq.trans Tryz.func148 (congrArg some (by kernel_rfl)), f305 := Eq.trans Tryz.func149 (congrArg some (by kernel_rfl)), f306 := Eq.trans Tryz.func150 (congrArg some (by kernel_rfl)), f307 := Eq.trans Tryz.func151 (congrArg some (by kernel_rfl)), f308 := Eq.trans Tryz.func152 (congrArg some (by kernel_rfl)), f309 := Eq.trans Tryz.func153 (congrArg some (by kernel_rfl)), f310 := Eq.trans Tryz.func154 (congrArg some (by kernel_rfl)), f329 := Eq.trans Tryz.func177 (congrArg some (by kernel_rfl)), f330 := Eq.trans Tryz.func178 (congrArg some (by kernel_rfl)), f333 := Eq.trans Tryz.func176 (congrArg some (by kernel_rfl)), f334 := Eq.trans Tryz.func179 (congrArg some (by kernel_rfl)), f335 := Eq.trans Tryz.func180 (congrArg some (by kernel_rfl)), f336 := Eq.trans Tryz.func181 (congrArg some (by kernel_rfl)), f344 := Eq.trans Tryz.func187 (congrArg some (by kernel_rfl)), t0 := Tryz.underlying0, a0 := Tryz.isAgg0, z0 := Tryz.sizeOf0, v0 := Tryz.zeroValue0, t3 := Tryz.underlying3, a3 := Tryz.isAgg3, z3 := Tryz.sizeOf3, v3 := Tryz.zeroValue3, t4 := Tryz.underlying4, a4 := Tryz.isAgg4, z4 := Tryz.sizeOf4, v4 := Tryz.zeroValue4, t5 := Tryz.underlying5, a5 := Tryz.isAgg5, z5 := Tryz.sizeOf5, v5 := Tryz.zeroValue5, t9 := Tryz.underlying9, a9 := Tryz.isAgg9, z9 := Tryz.sizeOf9, v9 := Tryz.zeroValue9, t31 := Tryz.underlying73, a31 := Tryz.isAgg73, z31 := Tryz.sizeOf73, v31 := Tryz.zeroValue73, t46 := Tryz.underlying129, a46 := Tryz.isAgg129, z46 := Tryz.sizeOf129, v46 := Tryz.zeroValue129, t51 := Tryz.underlying216, a51 := Tryz.isAgg216, z51 := Tryz.sizeOf216, v51 := Tryz.zeroValue216, t53 := Tryz.underlying133, a53 := Tryz.isAgg133, z53 := Tryz.sizeOf133, v53 := Tryz.zeroValue133, t131 := Tryz.underlying87, a131 := Tryz.isAgg87, z131 := Tryz.sizeOf87, v131 := Tryz.zeroValue87, t182 := Tryz.underlying208, a182 := Tryz.isAgg208, z182 := Tryz.sizeOf208, v182 := Tryz.zeroValue208, t183 := Tryz.underlying209, a183 := Tryz.isAgg209, z183 := Tryz.sizeOf209, v183 := Tryz.zeroValue209, t218 := Tryz.underlying231, a218 := Tryz.isAgg231, z218 := Tryz.sizeOf231, v218 := Tryz.zeroValue231, t222 := Tryz.underlying235, a222 := Tryz.isAgg235, z222 := Tryz.sizeOf235, v222 := Tryz.zeroValue235, t228 := Tryz.underlying240, a228 := Tryz.isAgg240, z228 := Tryz.sizeOf240, v228 := Tryz.zeroValue240, t229 := Tryz.underlying52, a229 := Tryz.isAgg52, z229 := Tryz.sizeOf52, v229 := Tryz.zeroValue52 }
section
attribute [local irreducible] OpJ RunL Run RunD DetJ pt own star Rd RdS
end
theorem c_sortStr (oa : Option Addr) (cap : Nat) (ss : List ByteArray) (hlen : ss.length ≤ 1000000) : AC Tryz.prog 80 ⟨[.slice oa ss.length cap]⟩ (stars [own 9 1 oa ss.length cap (ss.flatMap Sb)]) (Ret (.tuple ⟨[]⟩) [own 9 1 oa ss.length cap ((srtS ss).flatMap Sb)]) := ac_sortS lSort 9 oa cap ss hlen
instance mpKid : MPI Tryz.prog 95 9 73 := ⟨by kernel_rfl⟩
instance zvKid : ZVI Tryz.prog 73 (.slice none 0 0) := ⟨by kernel_rfl⟩
section
attribute [local irreducible] OpJ RunL Run RunD DetJ pt own star Rd RdS
theorem c_sort (b bm bk : Nat) (m : List Ac) (hl : m.length ≤ 400) : AC Tryz.prog 46 ⟨[.pointer (some ⟨b, 0, none⟩)]⟩ (stars [pt b (blk [.map (some bm), .map (some bk), .slice none 0 0] 97), amap bm acF acG m, amap bk kdF kdG []]) (Outs (fun _ : Value => True) (fun _ => .tuple ⟨[]⟩) (fun w => [pt b (blk [.map (some bm), .map (some bk), w] 97), amap bm acF acG m])) := by
 have hlf : ([] : List ByteArray).length + leftC m.length #[] ≤ 400 := Nat.le_trans (by rw [List.length_nil, Nat.zero_add]; exact leftC_le) hl
 refine AC.go Tryz.func46 rfl (Nat.le_of_ble_eq_true rfl) fun β => ?_
 refine Run.seq ?_
 refine sr ?_
 refine sx 4 ?_
 refine RunL.ownNil 9 1 ?_
 refine RunL.op rfl rfl (OpJ.range mpAcc rfl pk fun r10 => ?_)
 refine kp [0, 10] rfl ?_
 refine Run.block ?_
 refine Run.weak (L' := [pt r10 (iter bm m.length #[]), amap bm acF acG m, pt b (blk [.map (some bm), .map (some bk), .slice none ([] : List ByteArray).length 0] 97), own 9 1 none ([] : List ByteArray).length 0 (([] : List ByteArray).flatMap Sb), amap bk kdF kdG []]) (fun _ _ h => h) gv ?_
 refine Run.loop (fun mm E L => ∃ (seen : Array Nat) (cs : List ByteArray) (ca : Option Addr) (cc : Nat), mm = leftC m.length seen ∧ cs.length + leftC m.length seen ≤ 400 ∧ E = [(0, .pointer (some ⟨b, 0, none⟩)), (10, .pointer (some ⟨r10, 0, none⟩))] ∧ L = [pt r10 (iter bm m.length seen), amap bm acF acG m, pt b (blk [.map (some bm), .map (some bk), .slice ca cs.length cc] 97), own 9 1 ca cs.length cc (cs.flatMap Sb), amap bk kdF kdG []]) ⟨_, #[], [], none, 0, rfl, hlf, rfl, rfl⟩ ?_
 rintro _ _ _ ⟨seen, cs, ca, cc, rfl, hsc, rfl, rfl⟩
 refine sr ?_
 refine RunL.op rfl rfl (OpJ.next rfl pk (fun s => up) (fun hall => ?_) (fun iN y hy hns => ?_))
 skip
 refine sx 1 ?_
 refine kp [0, 10, 12] rfl ?_
 refine Run.seq ?_
 refine Run.false rfl ?_
 refine Run.exit ?_
 refine sr ?_
 refine sx 4 ?_
 refine RunL.call C80 rfl rfl rfl (c_sortStr ca cc cs (by omega)) tks ?_
 refine kp [0] rfl ?_
 refine sr ?_
 obtain ⟨ss, hss⟩ : ∃ ss, ss = srtS cs := ⟨_, rfl⟩
 have hsl : (srtS cs).length = cs.length := srtS_len cs
 refine RunL.bigNil (kdH 9) ?_
 refine sx 6 ?_
 refine kp [0, 33, 34, 35] rfl ?_
 refine Run.block ?_
 refine Run.weak (L' := [pt b (blk [.map (some bm), .map (some bk), .slice ca cs.length cc] 97), amap bm acF acG m, own 9 1 ca cs.length cc ((srtS cs).flatMap Sb), amap bk kdF kdG [], big (kdH 9) []]) (fun _ _ h => h) gv ?_
 refine Run.loop (fun mm E L => ∃ (i : Nat) (ks : List Kd), mm = cs.length - i ∧ i ≤ cs.length ∧ (∀ x ∈ ks, x.l.length ≤ i) ∧ E = [(0, .pointer (some ⟨b, 0, none⟩)), (33, .slice ca cs.length cc), (34, I cs.length), (35, I i)] ∧ L = [pt b (blk [.map (some bm), .map (some bk), .slice ca cs.length cc] 97), amap bm acF acG m, own 9 1 ca cs.length cc ((srtS cs).flatMap Sb), amap bk kdF kdG ks, big (kdH 9) ks]) ⟨_, 0, [], rfl, Nat.zero_le _, (fun x hx => by cases hx), rfl, rfl⟩ ?_
 rintro _ _ _ ⟨i, ks, rfl, hi, hkl, rfl, rfl⟩
 refine sr ?_
 refine sx 1 ?_
 refine kp [0, 33, 34, 35, 36] rfl ?_
 refine Run.seq ?_
 first | refine Run.if rfl (fun h1 => ?_) (fun h1 => ?_) | refine Run.cond rfl (fun h1 => ?_) (fun h1 => ?_)
 refine Run.skip ?_
 refine Run.seq ?_
 refine Run.block ?_
 refine sr ?_
 obtain ⟨x, hx⟩ := get_ex (xs := srtS cs) (i := i) (by omega)
 refine RunL.ownAddr pk (flat_ne (k := 1) (fun _ => rfl) (by decide) hx) fun b9 e hcap => ?_
 subst e
 refine sx 1 ?_
 refine RunL.op rfl rfl (OpJ.load1 inferInstance rfl pk (own.el (enc := Sb) hx (by decide) (fun _ => rfl)) ?_)
 refine asg rfl rfl ?_
 refine kp [0, 4, 33, 34, 35] rfl ?_
 refine sr ?_
 refine sx 5 ?_
 refine RunL.op rfl rfl (OpJ.lookupA1 inferInstance inferInstance inferInstance rfl rfl pk ?_)
 refine sx 1 ?_
 refine RunL.set (v := St (parOf m x)) (congrArg St par_lk) ?_
 refine RunL.kOut (parOf m x) pk ?_
 have hkd := kd_le (p := parOf m x) hkl
 refine asg rfl rfl ?_
 refine kp [0, 4, 5, 33, 34, 35] rfl ?_
 refine regionD HM ?_
 refine tk 0 rfl rfl rfl (DetJ.move rfl) ?_
 refine tk 1 rfl rfl rfl (DetJ.nilCheck rfl) ?_
 refine tk 2 rfl rfl rfl (DetJ.fieldAddr F97_1 rfl) ?_
 first | refine RunD.takeF 3 rfl rfl kr T95 rfl pk (by rfl) ?_ | refine RunD.takeO 3 rfl rfl kr T95 rfl pk (by assumption) (by rfl) (by exact fun _ => rfl) ?_
 refine tk 4 rfl rfl rfl (DetJ.move rfl) ?_
 refine tk 5 rfl rfl rfl (DetJ.move rfl) ?_
 refine tk 6 rfl rfl rfl (DetJ.nilCheck rfl) ?_
 refine tk 7 rfl rfl rfl (DetJ.fieldAddr F97_1 rfl) ?_
 first | refine RunD.takeF 8 rfl rfl kr T95 rfl pk (by rfl) ?_ | refine RunD.takeO 8 rfl rfl kr T95 rfl pk (by assumption) (by rfl) (by exact fun _ => rfl) ?_
 refine tk 9 rfl rfl rfl (DetJ.move rfl) ?_
 refine tk 11 rfl rfl rfl (DetJ.move rfl) ?_
 refine RunD.two 10 12 [true, false, false, false, false, true, true, true, true, true, true] [false, true, true, true, true, true, true, true, true, true, true] rfl rfl rfl rfl rfl rfl kr kr kr (OpJ.lookupK inferInstance inferInstance inferInstance rfl rfl pk ⟨po, ?_⟩) (OpJ.buildSlice1 S73 rfl rfl rfl (by decide) (by decide) Z9 rfl fun b58 => ⟨po, ?_⟩)
 refine RunD.op 12 [false, true, true, true, true, true, true] rfl rfl rfl kr kr (OpJ.buildSlice1 S73 rfl rfl rfl (by decide) (by decide) Z9 rfl fun b58 => ⟨po, ?_⟩)
 refine RunD.op 13 [true, true, true, true, true, true] rfl rfl rfl kr kr (OpJ.append1 x S73 M9 rfl rfl pk pk rfl rfl (by simp [Value.oneCell', Tg.c, Ln.c, En.c, Ac.c, Cl.c, Ky.c, Qy.c, Sb, Iv]) rfl (by omega) (by omega) fun a59 c59 => ⟨po, ?_⟩)
 refine RunD.op 14 [false, false, false, false, false, false] rfl rfl rfl kr kr (OpJ.mapUpdate (⟨parOf m x, a59, c59, (kdAt ks (parOf m x)).l ++ [x]⟩ : Kd) keyStr inferInstance inferInstance rfl rfl rfl up ⟨po, ?_⟩)
 refine kd [0, 33, 34, 35] rfl ?_
 refine Run.region ?_
 refine RunL.kIn 9 ks ⟨parOf m x, a59, c59, (kdAt ks (parOf m x)).l ++ [x]⟩ pk pk ?_
 refine sx 2 ?_
 refine RunL.weak (L' := [pt b (blk [.map (some bm), .map (some bk), .slice (some ⟨b9, 0, none⟩) cs.length cc] 97), amap bm acF acG m, own 9 1 (some ⟨b9, 0, none⟩) cs.length cc ((srtS cs).flatMap Sb), amap bk kdF kdG (kSet Kd.code ⟨parOf m x, a59, c59, (kdAt ks (parOf m x)).l ++ [x]⟩ ks), big (kdH 9) (kSet Kd.code ⟨parOf m x, a59, c59, (kdAt ks (parOf m x)).l ++ [x]⟩ ks)]) (Keep.sub (kt (ks := [0, 33, 34, 35]) rfl)) gv (RunL.nil ?_)
 exact ⟨_, by omega, i + 1, _, rfl, by omega, kd_set (fun z hz => by have := hkl z hz; omega) (by rw [List.length_append, List.length_singleton]; omega), rfl, rfl⟩
 refine RunD.op 10 [false, false, false, false, true, true, true, true, true, true] rfl rfl rfl kr kr (OpJ.lookupK inferInstance inferInstance inferInstance rfl rfl pk ⟨po, ?_⟩)
 refine RunD.op 13 [true, true, true, true, true, true] rfl rfl rfl kr kr (OpJ.append1 x S73 M9 rfl rfl pk pk rfl rfl (by simp [Value.oneCell', Tg.c, Ln.c, En.c, Ac.c, Cl.c, Ky.c, Qy.c, Sb, Iv]) rfl (by omega) (by omega) fun a59 c59 => ⟨po, ?_⟩)
 refine RunD.op 14 [false, false, false, false, false, false] rfl rfl rfl kr kr (OpJ.mapUpdate (⟨parOf m x, a59, c59, (kdAt ks (parOf m x)).l ++ [x]⟩ : Kd) keyStr inferInstance inferInstance rfl rfl rfl up ⟨po, ?_⟩)
 refine kd [0, 33, 34, 35] rfl ?_
 refine Run.region ?_
 refine RunL.kIn 9 ks ⟨parOf m x, a59, c59, (kdAt ks (parOf m x)).l ++ [x]⟩ pk pk ?_
 refine sx 2 ?_
 refine RunL.weak (L' := [pt b (blk [.map (some bm), .map (some bk), .slice (some ⟨b9, 0, none⟩) cs.length cc] 97), amap bm acF acG m, own 9 1 (some ⟨b9, 0, none⟩) cs.length cc ((srtS cs).flatMap Sb), amap bk kdF kdG (kSet Kd.code ⟨parOf m x, a59, c59, (kdAt ks (parOf m x)).l ++ [x]⟩ ks), big (kdH 9) (kSet Kd.code ⟨parOf m x, a59, c59, (kdAt ks (parOf m x)).l ++ [x]⟩ ks)]) (Keep.sub (kt (ks := [0, 33, 34, 35]) rfl)) gv (RunL.nil ?_)
 exact ⟨_, by omega, i + 1, _, rfl, by omega, kd_set (fun z hz => by have := hkl z hz; omega) (by rw [List.length_append, List.length_singleton]; omega), rfl, rfl⟩
 refine Run.exit ?_
 exact ret_out (.slice ca cs.length cc) .nil trivial rfl gv
 refine sx 1 ?_
 refine kp [0, 10, 12] rfl ?_
 refine Run.seq ?_
 refine Run.true rfl ?_
 refine Run.skip ?_
 refine Run.block ?_
 refine sr ?_
 refine RunL.op rfl rfl (OpJ.entry rfl pk pk hy ?_)
 refine sx 2 ?_
 refine kp [0, 2, 10] rfl ?_
 refine Run.region ?_
 refine sx 6 ?_
 refine RunL.op rfl rfl (OpJ.buildSlice1 S73 rfl rfl rfl (by decide) (by decide) Z9 rfl fun b21 => ?_)
 refine RunL.op rfl rfl (OpJ.append1 y.code S73 M9 rfl rfl pk pk rfl rfl (by simp [Value.oneCell', Tg.c, Ln.c, En.c, Ac.c, Cl.c, Ky.c, Qy.c, Sb, Iv]) rfl (by omega) (by omega) fun a22 c22 => ?_)
 refine sx 3 ?_
 have hlp := leftC_push (List.getElem?_eq_some_iff.1 hy).1 hns
 refine RunL.weak (L' := [pt r10 (iter bm m.length (seen.push iN)), amap bm acF acG m, pt b (blk [.map (some bm), .map (some bk), .slice a22 (cs ++ [y.code]).length c22] 97), own 9 1 a22 (cs ++ [y.code]).length c22 ((cs ++ [y.code]).flatMap Sb), amap bk kdF kdG []]) (Keep.sub (kt (ks := [0, 10]) rfl)) gv (RunL.nil ?_)
 exact ⟨_, hlp, seen.push iN, cs ++ [y.code], a22, c22, rfl, (by rw [List.length_append, List.length_singleton]; omega), rfl, rfl⟩
theorem c_New (R : HP) (oa : Option Addr) (cap : Nat) (xs : List Ac) (hR : RdS R oa (xs.flatMap Ac.c)) (hrd : ∀ a ∈ xs, a.rd R) (hl : xs.length ≤ 140737488355328) : AC Tryz.prog 22 ⟨[.slice oa xs.length cap]⟩ (stars [R]) (Outs (fun y : Chv × Int × Int => chartB xs = true → y.1.m.map Ac.st = xs.map Ac.st) (fun y => if chartB xs = true then .tuple ⟨[.pointer (some ⟨y.1.b, 0, none⟩), I 0, I 0]⟩ else .tuple ⟨[.pointer none, I y.2.1, I y.2.2]⟩) (fun y => if chartB xs = true then [pt y.1.b (blk [.map (some y.1.bm), y.1.v, y.1.w] 97), amap y.1.bm acF acG y.1.m, big (ndH 9) y.1.m, R] else [R])) := by
 refine AC.go Tryz.func22 rfl (Nat.le_of_ble_eq_true rfl) fun β => ?_
 refine sr ?_
 refine sx 3 ?_
 refine kp [0] rfl ?_
 refine Run.scope ?_
 refine Run.seq ?_
 refine sr ?_
 refine sx 3 ?_
 refine kp [0, 11] rfl ?_
 first | refine Run.if rfl (fun h1 => ?_) (fun h1 => ?_) | refine Run.cond rfl (fun h1 => ?_) (fun h1 => ?_)
 refine sr ?_
 refine sx 3 ?_
 refine kp [2, 3, 4] rfl ?_
 refine Run.ret ?_
 have hc : ¬ chartB xs = true := fun h => by { have := (chart_iff.1 h).1; omega }
 exact ret_out ((⟨0, 0, I 0, I 0, []⟩ : Chv), 0, 9) (.tmp rfl (.tmp rfl (.tmp rfl .nil))) (fun h => absurd h hc) (by simp only [if_neg hc]; rfl) (by simp only [if_neg hc]; exact gv)
 refine Run.skip ?_
 refine sr ?_
 refine RunL.op rfl rfl (OpJ.makeMap fun bm => ?_)
 refine RunL.op rfl rfl (OpJ.makeMap fun bk => ?_)
 refine sx 1 ?_
 refine RunL.op rfl rfl (OpJ.boxA rfl fun b15 => ?_)
 refine RunL.bigNil (ndH 9) ?_
 refine asg rfl rfl ?_
 refine kp [0, 2] rfl ?_
 refine Run.seq ?_
 refine Run.label ?_
 refine Run.seq ?_
 refine Run.block ?_
 refine Run.weak (L' := [pt b15 (blk [.map (some bm), .map (some bk), .slice none 0 0] 97), amap bm acF acG [], big (ndH 9) [], amap bk kdF kdG [], R]) (fun _ _ h => h) gv ?_
 refine Run.loop (fun mm E L => mm = 0 ∧ E = [(0, .slice oa xs.length cap), (2, .pointer (some ⟨b15, 0, none⟩))] ∧ L = [pt b15 (blk [.map (some bm), .map (some bk), .slice none 0 0] 97), amap bm acF acG [], big (ndH 9) [], amap bk kdF kdG [], R]) ⟨_, rfl, rfl, rfl⟩ ?_
 rintro _ _ _ ⟨rfl, rfl, rfl⟩
 refine Run.block ?_
 refine Run.seq ?_
 refine sr ?_
 refine sx 3 ?_
 refine kp [0, 2, 16, 17, 18] rfl ?_
 refine Run.block ?_
 refine Run.loop (fun mm E L => ∃ (i : Nat) (m : List Ac), mm = xs.length - i ∧ i ≤ xs.length ∧ m.map Ac.st = (xs.take i).map Ac.st ∧ aloneTo xs i ∧ E = [(0, .slice oa xs.length cap), (2, .pointer (some ⟨b15, 0, none⟩)), (16, .slice oa xs.length cap), (17, I xs.length), (18, I i)] ∧ L = [pt b15 (blk [.map (some bm), .map (some bk), .slice none 0 0] 97), amap bm acF acG m, big (ndH 9) m, amap bk kdF kdG [], R]) ⟨_, 0, [], rfl, Nat.zero_le _, rfl, (fun j x h => by omega), rfl, rfl⟩ ?_
 rintro _ _ _ ⟨i, m, rfl, hi, hm, hI0, rfl, rfl⟩
 refine sr ?_
 refine sx 1 ?_
 refine kp [0, 2, 16, 17, 18, 19] rfl ?_
 refine Run.seq ?_
 first | refine Run.if rfl (fun h2 => ?_) (fun h2 => ?_) | refine Run.cond rfl (fun h2 => ?_) (fun h2 => ?_)
 refine Run.skip ?_
 refine Run.seq ?_
 refine Run.block ?_
 refine sr ?_
 obtain ⟨a, hx⟩ := get_ex (xs := xs) (i := i) (by omega)
 have har := hrd a (List.mem_of_getElem? hx)
 refine RunL.rdOpen pk hR (flat_ne (k := 8) (fun _ => rfl) (by decide) hx) fun bx ox ebx hrdx => ?_
 rw [ebx]
 refine sx 2 ?_
 refine RunL.op rfl rfl (OpJ.loadA inferInstance rfl pk (hrdx.elem (fun _ => rfl) hx) rfl ?_)
 refine RunL.op rfl rfl (OpJ.alloc Z78 fun b6 => ?_)
 refine asg rfl rfl ?_
 refine RunL.op rfl rfl (OpJ.storeW T78 rfl rfl rfl rfl (by simp [Value.oneCell', Tg.c, Ln.c, En.c, Ac.c, Cl.c, Ky.c, Qy.c, Sb, Iv]) up ?_)
 refine kp [0, 2, 5, 6, 16, 17, 18] rfl ?_
 refine Run.seq ?_
 refine sr ?_
 refine sx 3 ?_
 refine RunL.call C43 rfl rfl rfl (c_alone b15 bm (.map (some bk)) (.slice none 0 0) m a R har.1 har.2.1 har.2.2) tks ?_
 refine sx 2 ?_
 refine kp [0, 2, 3, 4, 6, 16, 17, 18] rfl ?_
 refine sr ?_
 refine sx 2 ?_
 refine kp [0, 2, 3, 4, 6, 16, 17, 18, 28] rfl ?_
 first | refine Run.if rfl (fun h3 => ?_) (fun h3 => ?_) | refine Run.cond rfl (fun h3 => ?_) (fun h3 => ?_)
 refine Run.exit ?_
 refine sr ?_
 refine sx 5 ?_
 refine kp [2, 3, 4] rfl ?_
 refine Run.ret ?_
 have hc := chart_alone hm hx (by simpa using h3)
 exact ret_out ((⟨0, 0, I 0, I 0, []⟩ : Chv), (i : Int), aloneE m a) (.tmp rfl (.tmp rfl (.tmp rfl .nil))) (fun h => absurd h hc) (by simp only [if_neg hc]; rfl) (by simp only [if_neg hc]; exact gv)
 refine Run.skip ?_
 refine regionD HM ?_
 have ha0 : aloneE m a = 0 := by simpa using h3
 have hal := alone_len ha0
 refine tk 0 rfl rfl rfl (DetJ.move rfl) ?_
 refine tk 1 rfl rfl rfl (DetJ.nilCheck rfl) ?_
 refine tk 2 rfl rfl rfl (DetJ.fieldAddr F97_0 rfl) ?_
 first | refine RunD.takeF 3 rfl rfl kr T94 rfl pk (by rfl) ?_ | refine RunD.takeO 3 rfl rfl kr T94 rfl pk (by assumption) (by rfl) (by exact fun _ => rfl) ?_
 refine tk 4 rfl rfl rfl (DetJ.fieldAddr F78_0 rfl) ?_
 first | refine RunD.takeF 5 rfl rfl kr T9 rfl pk (by rfl) ?_ | refine RunD.takeO 5 rfl rfl kr T9 rfl pk (by assumption) (by rfl) (by exact fun _ => rfl) ?_
 first | refine RunD.takeW 6 rfl rfl kr T78 rfl pk (by rfl) ?_ | refine RunD.takeP 6 rfl rfl kr T78 rfl pk (by simp) ?_ | refine RunD.takeE 6 rfl rfl kr T78 rfl pk (by assumption) (by exact fun _ => rfl) rfl (by decide) ?_
 refine RunD.op 7 [false, true, true, true, true, true, true] rfl rfl rfl kr kr (OpJ.callOuts C44 rfl rfl (c_copied a R har.1 har.2.1 (by omega)) tks fun ⟨na, nc⟩ _ => ⟨po, ?_⟩)
 refine RunD.op 8 [false, false, false, false, false, false] rfl rfl rfl kr kr (OpJ.mapUpdate (a.put (na, nc)) keyStr mpAcc inferInstance rfl rfl rfl up ⟨po, ?_⟩)
 refine kd [0, 2, 16, 17, 18] rfl ?_
 refine Run.region ?_
 rw [show kSet Ac.code (a.put (na, nc)) m = m ++ [a.put (na, nc)] from kSet_new (alone_new ha0)]
 refine RunL.bigApp (ndH 9) m (a.put (na, nc)) pk pk ?_
 refine sx 2 ?_
 refine RunL.weak (L' := [pt b15 (blk [.map (some bm), .map (some bk), .slice none 0 0] 97), amap bm acF acG (m ++ [a.put (na, nc)]), big (ndH 9) (m ++ [a.put (na, nc)]), amap bk kdF kdG [], R]) (Keep.sub (kt (ks := [0, 2, 16, 17, 18]) rfl)) gv (RunL.nil ?_)
 exact ⟨_, by omega, i + 1, m ++ [a.put (na, nc)], rfl, by omega, take_st hm hx rfl, hI0.step hm hx ha0, rfl, rfl⟩
 refine Run.exit ?_
 refine Run.seq ?_
 refine sr ?_
 refine sx 3 ?_
 refine kp [2, 38, 39, 40] rfl ?_
 refine Run.block ?_
 obtain rfl : i = xs.length := by omega
 rw [List.take_length] at hm
 have hml := st_len hm
 refine Run.loop (fun mm E L => ∃ (i : Nat), mm = xs.length - i ∧ i ≤ xs.length ∧ belowTo xs i ∧ E = [(2, .pointer (some ⟨b15, 0, none⟩)), (38, .slice oa xs.length cap), (39, I xs.length), (40, I i)] ∧ L = [pt b15 (blk [.map (some bm), .map (some bk), .slice none 0 0] 97), amap bm acF acG m, big (ndH 9) m, amap bk kdF kdG [], R]) ⟨_, 0, rfl, Nat.zero_le _, (fun j x h => by omega), rfl, rfl⟩ ?_
 rintro _ _ _ ⟨i, rfl, hi, hI1, rfl, rfl⟩
 refine sr ?_
 refine sx 1 ?_
 refine kp [2, 38, 39, 40, 41] rfl ?_
 refine Run.seq ?_
 first | refine Run.if rfl (fun h4 => ?_) (fun h4 => ?_) | refine Run.cond rfl (fun h4 => ?_) (fun h4 => ?_)
 refine Run.skip ?_
 refine Run.seq ?_
 refine Run.block ?_
 refine sr ?_
 obtain ⟨a, hx⟩ := get_ex (xs := xs) (i := i) (by omega)
 have har := hrd a (List.mem_of_getElem? hx)
 refine RunL.rdOpen pk hR (flat_ne (k := 8) (fun _ => rfl) (by decide) hx) fun bx ox ebx hrdx => ?_
 rw [ebx]
 refine sx 2 ?_
 refine RunL.op rfl rfl (OpJ.loadA inferInstance rfl pk (hrdx.elem (fun _ => rfl) hx) rfl ?_)
 refine RunL.op rfl rfl (OpJ.alloc Z78 fun b8 => ?_)
 refine asg rfl rfl ?_
 refine RunL.op rfl rfl (OpJ.storeW T78 rfl rfl rfl rfl (by simp [Value.oneCell', Tg.c, Ln.c, En.c, Ac.c, Cl.c, Ky.c, Qy.c, Sb, Iv]) up ?_)
 refine kp [2, 7, 8, 38, 39, 40] rfl ?_
 refine sr ?_
 refine sx 3 ?_
 refine RunL.call C45 rfl rfl rfl (c_below b15 bm (.map (some bk)) (.slice none 0 0) m a (by omega)) tks ?_
 refine sx 2 ?_
 refine kp [2, 3, 4, 38, 39, 40] rfl ?_
 refine sr ?_
 refine sx 2 ?_
 refine kp [2, 3, 4, 38, 39, 40, 50] rfl ?_
 first | refine Run.if rfl (fun h5 => ?_) (fun h5 => ?_) | refine Run.cond rfl (fun h5 => ?_) (fun h5 => ?_)
 refine Run.exit ?_
 refine sr ?_
 refine sx 5 ?_
 refine kp [2, 3, 4] rfl ?_
 refine Run.ret ?_
 have hc := chart_below hm hx (by simpa using h5)
 exact ret_out ((⟨0, 0, I 0, I 0, []⟩ : Chv), (i : Int), belowE m a) (.tmp rfl (.tmp rfl (.tmp rfl .nil))) (fun h => absurd h hc) (by simp only [if_neg hc]; rfl) (by simp only [if_neg hc]; exact gv)
 refine Run.skip ?_
 refine Run.region ?_
 refine sx 2 ?_
 exact RunL.next (Keep.sub (kt (ks := [2, 38, 39, 40]) rfl)) _ ⟨_, by omega, i + 1, rfl, by omega, hI1.step hm hx (by simpa using h5), rfl, rfl⟩ gv
 refine Run.exit ?_
 refine sr ?_
 refine mvo rfl rfl ?_
 refine RunL.callX C46 rfl rfl rfl (c_sort b15 bm bk m (by omega)) tks fun w _ => ?_
 refine kp [2] rfl ?_
 refine sr ?_
 refine sx 4 ?_
 refine kp [2, 3, 4] rfl ?_
 refine Run.ret ?_
 have hc := chart_good (xs := xs) (by omega) hI0 (by obtain rfl : i = xs.length := (by omega); exact hI1)
 exact ret_out ((⟨b15, bm, .map (some bk), w, m⟩ : Chv), 0, 0) (.tmp rfl (.tmp rfl (.tmp rfl .nil))) (fun _ => hm) (by simp only [if_pos hc]; rfl) (by simp only [if_pos hc]; exact gv)
theorem c_mag (n : Int) (hn : i64 n) : AC Tryz.prog 167 ⟨[I n]⟩ (stars []) (Ret (U (mag n)) []) := by
 refine AC.go Tryz.func167 rfl (Nat.le_of_ble_eq_true rfl) fun β => ?_
 refine sr ?_
 refine asg rfl rfl ?_
 refine kp [0] rfl ?_
 refine Run.seq ?_
 refine sr ?_
 refine sx 2 ?_
 refine kp [0, 4] rfl ?_
 first | refine Run.if rfl (fun h1 => ?_) (fun h1 => ?_) | refine Run.cond rfl (fun h1 => ?_) (fun h1 => ?_)
 refine sr ?_
 refine sx 4 ?_
 refine kp [2] rfl ?_
 refine Run.ret ?_
 exact ret_one (.tmp rfl .nil) (congrArg U (mag_conv_neg hn h1)) gv
 refine Run.skip ?_
 refine sr ?_
 refine sx 3 ?_
 refine kp [2] rfl ?_
 refine Run.ret ?_
 exact ret_one (.tmp rfl .nil) (congrArg U (mag_conv_pos hn h1)) gv
theorem c_away (mode r c : Int) (neg odd : Bool) (hr : u64 r) (hc : u64 c) (hrc : r < c) : AC Tryz.prog 169 ⟨[I mode, Bo neg, Bo odd, U r, U c]⟩ (stars []) (Ret (Bo (awayB mode neg odd r c)) []) := by
 refine AC.go Tryz.func169 rfl (Nat.le_of_ble_eq_true rfl) fun β => ?_
 refine sr ?_
 refine asg rfl rfl ?_
 refine kp [0, 1, 2, 3, 4] rfl ?_
 refine Run.seq ?_
 refine sr ?_
 refine sx 2 ?_
 refine kp [0, 1, 2, 3, 4, 13] rfl ?_
 first | refine Run.if rfl (fun h1 => ?_) (fun h1 => ?_) | refine Run.cond rfl (fun h1 => ?_) (fun h1 => ?_)
 refine sr ?_
 refine asg rfl rfl ?_
 refine kp [10] rfl ?_
 refine Run.ret ?_
 exact ret_one (.tmp rfl .nil) (by clear hr hc; (try (rename r = c - r => e; have e2 := decide_eq_true e; clear e)); first | (simp [tup, awayB, *]; done) | (exfalso; omega)) gv
 refine Run.skip ?_
 refine sr ?_
 refine sx 2 ?_
 refine RunL.op rfl rfl (OpJ.subU rfl rfl (by omega) ?_)
 refine asg rfl rfl ?_
 refine kp [0, 1, 2, 3, 11] rfl ?_
 refine Run.seq ?_
 refine sr ?_
 refine mvo rfl rfl ?_
 refine kp [1, 2, 3, 11, 17] rfl ?_
 refine Run.block ?_
 refine sr ?_
 refine sx 2 ?_
 refine kp [1, 2, 3, 11, 17, 18] rfl ?_
 first | refine Run.if rfl (fun h2 => ?_) (fun h2 => ?_) | refine Run.cond rfl (fun h2 => ?_) (fun h2 => ?_)
 refine sr ?_
 refine asg rfl rfl ?_
 refine kp [10] rfl ?_
 refine Run.ret ?_
 exact ret_one (.tmp rfl .nil) (by clear hr hc; (try (rename r = c - r => e; have e2 := decide_eq_true e; clear e)); first | (simp [tup, awayB, *]; done) | (exfalso; omega)) gv
 refine sr ?_
 refine sx 2 ?_
 refine kp [1, 2, 3, 11, 17, 20] rfl ?_
 first | refine Run.if rfl (fun h3 => ?_) (fun h3 => ?_) | refine Run.cond rfl (fun h3 => ?_) (fun h3 => ?_)
 refine sr ?_
 refine sx 4 ?_
 refine kp [10] rfl ?_
 refine Run.ret ?_
 exact ret_one (.tmp rfl .nil) (by clear hr hc; (try (rename r = c - r => e; have e2 := decide_eq_true e; clear e)); first | (simp [tup, awayB, *]; done) | (exfalso; omega)) gv
 refine sr ?_
 refine sx 2 ?_
 refine kp [1, 2, 3, 11, 17, 25] rfl ?_
 first | refine Run.if rfl (fun h4 => ?_) (fun h4 => ?_) | refine Run.cond rfl (fun h4 => ?_) (fun h4 => ?_)
 refine sr ?_
 refine sx 4 ?_
 first | refine RunL.splitP (t := 30) rfl (fun g5 => ?_) (fun g5 => ?_) | refine RunL.split (t := 30) rfl (fun g5 => ?_) (fun g5 => ?_)
 refine sx 8 ?_
 refine kp [10] rfl ?_
 refine Run.ret ?_
 exact ret_one (.tmp rfl .nil) (by clear hr hc; (try (rename r = c - r => e; have e2 := decide_eq_true e; clear e)); first | (simp [tup, awayB, *]; done) | (exfalso; omega)) gv
 refine sx 4 ?_
 first | refine RunL.splitP (t := 34) rfl (fun g6 => ?_) (fun g6 => ?_) | refine RunL.split (t := 34) rfl (fun g6 => ?_) (fun g6 => ?_)
 refine sx 4 ?_
 refine kp [10] rfl ?_
 refine Run.ret ?_
 exact ret_one (.tmp rfl .nil) (by clear hr hc; (try (rename r = c - r => e; have e2 := decide_eq_true e; clear e)); first | (simp [tup, awayB, *]; done) | (exfalso; omega)) gv
 refine sx 4 ?_
 refine kp [10] rfl ?_
 refine Run.ret ?_
 exact ret_one (.tmp rfl .nil) (by clear hr hc; (try (rename r = c - r => e; have e2 := decide_eq_true e; clear e)); first | (simp [tup, awayB, *]; done) | (exfalso; omega)) gv
 refine sr ?_
 refine sx 2 ?_
 refine kp [1, 38] rfl ?_
 first | refine Run.if rfl (fun h7 => ?_) (fun h7 => ?_) | refine Run.cond rfl (fun h7 => ?_) (fun h7 => ?_)
 refine sr ?_
 refine sx 2 ?_
 refine kp [10] rfl ?_
 refine Run.ret ?_
 exact ret_one (.tmp rfl .nil) (by clear hr hc; (try (rename r = c - r => e; have e2 := decide_eq_true e; clear e)); first | (simp [tup, awayB, *]; done) | (exfalso; omega)) gv
 refine Run.skip ?_
 refine sr ?_
 refine asg rfl rfl ?_
 refine kp [10] rfl ?_
 refine Run.ret ?_
 exact ret_one (.tmp rfl .nil) (by clear hr hc; (try (rename r = c - r => e; have e2 := decide_eq_true e; clear e)); first | (simp [tup, awayB, *]; done) | (exfalso; omega)) gv
theorem c_signed (neg : Bool) (size : Int) (hs : u64 size) : AC Tryz.prog 170 ⟨[Bo neg, U size]⟩ (stars []) (Ret (.tuple ⟨[I (signedN neg size), I (signedE neg size)]⟩) []) := by
 refine AC.go Tryz.func170 rfl (Nat.le_of_ble_eq_true rfl) fun β => ?_
 refine sr ?_
 refine sx 2 ?_
 refine kp [0, 1] rfl ?_
 refine Run.seq ?_
 refine sr ?_
 refine mvo rfl rfl ?_
 refine kp [1, 6] rfl ?_
 first | refine Run.if rfl (fun h1 => ?_) (fun h1 => ?_) | refine Run.cond rfl (fun h1 => ?_) (fun h1 => ?_)
 refine Run.seq ?_
 refine sr ?_
 refine sx 2 ?_
 refine kp [1, 8] rfl ?_
 first | refine Run.if rfl (fun h2 => ?_) (fun h2 => ?_) | refine Run.cond rfl (fun h2 => ?_) (fun h2 => ?_)
 refine sr ?_
 refine sx 2 ?_
 refine kp [4, 5] rfl ?_
 refine Run.ret ?_
 exact ret_one (.tmp rfl (.tmp rfl .nil)) (by rw [signedN, signedE, if_pos h1, if_pos h1, if_pos h2, if_pos h2]; rfl) gv
 refine Run.skip ?_
 refine sr ?_
 refine mvo rfl rfl ?_
 refine RunL.op rfl rfl (OpJ.sub rfl rfl ?_)
 refine sx 2 ?_
 refine RunL.op rfl rfl (OpJ.sub rfl rfl ?_)
 refine sx 2 ?_
 refine kp [4, 5] rfl ?_
 refine Run.ret ?_
 exact ret_one (.tmp rfl (.tmp rfl .nil)) (by rw [signed_neg hs h2, signedN, signedE, if_pos h1, if_pos h1, if_neg h2, if_neg h2]; rfl) gv
 refine Run.skip ?_
 refine Run.seq ?_
 refine sr ?_
 refine sx 2 ?_
 refine kp [1, 15] rfl ?_
 first | refine Run.if rfl (fun h3 => ?_) (fun h3 => ?_) | refine Run.cond rfl (fun h3 => ?_) (fun h3 => ?_)
 refine sr ?_
 refine sx 2 ?_
 refine kp [4, 5] rfl ?_
 refine Run.ret ?_
 exact ret_one (.tmp rfl (.tmp rfl .nil)) (by rw [signedN, signedE, if_neg (show ¬ neg = true by simp [h1]), if_neg (show ¬ neg = true by simp [h1]), if_pos h3, if_pos h3]; rfl) gv
 refine Run.skip ?_
 refine sr ?_
 refine sx 4 ?_
 refine kp [4, 5] rfl ?_
 refine Run.ret ?_
 exact ret_one (.tmp rfl (.tmp rfl .nil)) (by rw [signed_pos hs h3, signedN, signedE, if_neg (show ¬ neg = true by simp [h1]), if_neg (show ¬ neg = true by simp [h1]), if_neg h3, if_neg h3]; rfl) gv
theorem c_multiply (a b : Int) (ha : u64 a) (hb : u64 b) : AC Tryz.prog 166 ⟨[U a, U b]⟩ (stars []) (Ret (.agg ⟨[U (a * b / 18446744073709551616), U (a * b % 18446744073709551616)]⟩) []) := by
 have ea1 := hi32 ha; have ea0 := lo32 a; have eb1 := hi32 hb; have eb0 := lo32 b
 have p11 := mul32 ea1 eb1; have p10 := mul32 ea1 eb0; have p01 := mul32 ea0 eb1; have p00 := mul32 ea0 eb0
 have hw := mul_words a b ha hb
 simp only at hw
 refine AC.go Tryz.func166 rfl (Nat.le_of_ble_eq_true rfl) fun β => ?_
 refine sr ?_
 refine RunL.op rfl rfl (OpJ.alloc Z224 fun b4 => ?_)
 refine kp [0, 1, 4] rfl ?_
 refine sr ?_
 refine mvo rfl rfl ?_
 refine RunL.op rfl rfl (OpJ.shrU (k := 32) rfl rfl (by omega) ?_)
 refine mvo rfl rfl ?_
 refine RunL.op rfl rfl (OpJ.maskU rfl rfl (by omega) ?_)
 refine sx 2 ?_
 refine kp [1, 4, 5, 6] rfl ?_
 refine sr ?_
 refine mvo rfl rfl ?_
 refine RunL.op rfl rfl (OpJ.shrU (k := 32) rfl rfl (by omega) ?_)
 refine mvo rfl rfl ?_
 refine RunL.op rfl rfl (OpJ.maskU rfl rfl (by omega) ?_)
 refine sx 2 ?_
 refine kp [4, 5, 6, 7, 8] rfl ?_
 refine sr ?_
 refine sx 2 ?_
 refine RunL.op rfl rfl (OpJ.mulU rfl rfl (mul32u (by omega) (by omega)) ?_)
 refine asg rfl rfl ?_
 refine kp [4, 5, 6, 7, 8, 9] rfl ?_
 refine sr ?_
 refine sx 2 ?_
 refine RunL.op rfl rfl (OpJ.mulU rfl rfl (mul32u (by omega) (by omega)) ?_)
 refine mvo rfl rfl ?_
 refine RunL.op rfl rfl (OpJ.shrU (k := 32) rfl rfl (by omega) ?_)
 refine RunL.op rfl rfl (OpJ.addU rfl rfl (by omega) ?_)
 refine asg rfl rfl ?_
 refine kp [4, 5, 6, 7, 9, 10] rfl ?_
 refine sr ?_
 refine sx 2 ?_
 refine RunL.op rfl rfl (OpJ.mulU rfl rfl (mul32u (by omega) (by omega)) ?_)
 refine mvo rfl rfl ?_
 refine RunL.op rfl rfl (OpJ.maskU rfl rfl (by omega) ?_)
 refine RunL.op rfl rfl (OpJ.addU rfl rfl (by omega) ?_)
 refine asg rfl rfl ?_
 refine kp [4, 5, 7, 9, 10, 11] rfl ?_
 refine sr ?_
 refine sx 2 ?_
 refine RunL.op rfl rfl (OpJ.mulU rfl rfl (mul32u (by omega) (by omega)) ?_)
 refine mvo rfl rfl ?_
 refine RunL.op rfl rfl (OpJ.shrU (k := 32) rfl rfl (by omega) ?_)
 refine RunL.op rfl rfl (OpJ.addU rfl rfl (by omega) ?_)
 refine mvo rfl rfl ?_
 refine RunL.op rfl rfl (OpJ.shrU (k := 32) rfl rfl (by omega) ?_)
 refine RunL.op rfl rfl (OpJ.addU rfl rfl (by omega) ?_)
 refine mvo rfl rfl ?_
 refine RunL.op rfl rfl (OpJ.shl32 rfl rfl ?_)
 refine mvo rfl rfl ?_
 refine RunL.op rfl rfl (OpJ.maskU rfl rfl (by omega) ?_)
 refine RunL.op rfl rfl (OpJ.orShl rfl rfl (by omega) (by omega) ?_)
 refine sx 1 ?_
 refine RunL.op rfl rfl (OpJ.storeW T224 rfl rfl rfl rfl (by simp [Value.oneCell', Tg.c, Ln.c, En.c, Ac.c, Cl.c, Ky.c, Qy.c, Sb, Iv, Cs.c]) up ?_)
 refine kp [4] rfl ?_
 refine Run.ret ?_
 exact ret_one (.cellA T224 rfl pk (by rfl) .nil) (words_ret hw (by omega)) gv
theorem c_divide0 (hi lo c : Int) (hhi : u64 hi) (hlo : u64 lo) (hc : 0 < c) (hcu : u64 c) : AC Tryz.prog 168 ⟨[.agg ⟨[U hi, U lo]⟩, U c]⟩ (stars []) (Ret (.tuple ⟨[.agg ⟨[U ((hi * 18446744073709551616 + lo) / c / 18446744073709551616), U ((hi * 18446744073709551616 + lo) / c % 18446744073709551616)]⟩, U ((hi * 18446744073709551616 + lo) % c)]⟩) []) := by
 refine AC.go Tryz.func168 rfl (Nat.le_of_ble_eq_true rfl) fun β => ?_
 refine sr ?_
 refine RunL.op rfl rfl (OpJ.boxA rfl fun b2 => ?_)
 refine RunL.op rfl rfl (OpJ.alloc Z224 fun b4 => ?_)
 refine asg rfl rfl ?_
 refine kp [1, 2, 4, 5] rfl ?_
 refine Run.scope ?_
 refine Run.seq ?_
 refine Run.label ?_
 refine Run.seq ?_
 refine sr ?_
 refine sx 2 ?_
 refine kp [1, 4, 5, 10, 11] rfl ?_
 refine Run.block ?_
 refine Run.weak (L' := [pt b4 (blk [U 0, U 0] 224)]) (fun _ _ h => h) gv ?_
 refine Run.loop (fun m E L => ∃ i : Nat, ∃ q0 q1 r : Int, m = 2 - i ∧ i ≤ 2 ∧ OI hi lo c i q0 q1 r ∧ E = [(1, U c), (4, .pointer (some ⟨b4, 0, none⟩)), (5, U r), (10, .agg ⟨[U hi, U lo]⟩), (11, I i)] ∧ L = [pt b4 (blk [U q0, U q1] 224)]) ⟨_, 0, 0, 0, 0, rfl, by omega, OI.zero, rfl, rfl⟩ ?_
 rintro _ _ _ ⟨i, q0, q1, r, rfl, hi2, hO, rfl, rfl⟩
 refine sr ?_
 refine sx 1 ?_
 refine kp [1, 4, 5, 10, 11, 12] rfl ?_
 refine Run.seq ?_
 first | refine Run.if rfl (fun h1 => ?_) (fun h1 => ?_) | refine Run.cond rfl (fun h1 => ?_) (fun h1 => ?_)
 refine Run.skip ?_
 refine Run.seq ?_
 refine Run.block ?_
 refine sr ?_
 obtain ⟨w, hw64, hwv, hqi, hr0, hrc, hnext⟩ := OI.next hhi hlo hc hO (by omega)
 refine mvo rfl rfl ?_
 refine RunL.op rfl rfl (OpJ.indexArr A224 rfl rfl (by omega) hwv ?_)
 refine sx 2 ?_
 refine kp [1, 4, 5, 6, 7, 10, 11] rfl ?_
 refine sr ?_
 refine asg rfl rfl ?_
 refine kp [1, 4, 5, 6, 7, 8, 10, 11] rfl ?_
 refine Run.block ?_
 rw [hqi]
 refine Run.loop (fun m E L => ∃ k : Nat, ∃ q s : Int, k = m ∧ DInv r w c k q s ∧ E = [(1, U c), (4, .pointer (some ⟨b4, 0, none⟩)), (5, U s), (6, I i), (7, U w), (8, I ((k : Int) - 1)), (10, .agg ⟨[U hi, U lo]⟩), (11, I i)] ∧ L = [pt b4 (blk ([U q0, U q1].set i (U q)) 224)]) ⟨_, 64, 0, r, rfl, DInv.start hr0 hrc hw64, rfl, rfl⟩ ?_
 rintro _ _ _ ⟨k, q, s, rfl, hD, rfl, rfl⟩
 refine Run.seq ?_
 refine sr ?_
 refine sx 2 ?_
 refine kp [1, 4, 5, 6, 7, 8, 10, 11, 16] rfl ?_
 first | refine Run.if rfl (fun h2 => ?_) (fun h2 => ?_) | refine Run.cond rfl (fun h2 => ?_) (fun h2 => ?_)
 refine Run.skip ?_
 refine Run.seq ?_
 refine Run.block ?_
 refine Run.seq ?_
 refine sr ?_
 obtain ⟨j, rfl⟩ : ∃ j, k = j + 1 := ⟨k - 1, by omega⟩
 have hj := hD.k64; have hq64 := hD.q64; have hs0 := hD.r0; have hsc := hD.rc; have hqh := hD.half
 refine sx 3 ?_
 first | refine RunL.splitP (t := 21) rfl (fun g3 => ?_) (fun g3 => ?_) | refine RunL.split (t := 21) rfl (fun g3 => ?_) (fun g3 => ?_)
 refine sx 3 ?_
 refine RunL.yes rfl rfl rfl rfl (OpJ.shlV (k := 64 - (j + 1)) rfl rfl (by omega) (by omega) ?_)
 refine sx 2 ?_
 refine kp [1, 4, 5, 6, 7, 8, 10, 11, 27] rfl ?_
 first | refine Run.if rfl (fun h4 => ?_) (fun h4 => ?_) | refine Run.cond rfl (fun h4 => ?_) (fun h4 => ?_)
 refine sr ?_
 refine sx 2 ?_
 refine RunL.op rfl rfl (OpJ.loadF T133 rfl pk (getset (l := [U q0, U q1]) (show i < 2 by omega)) ?_)
 refine sx 2 ?_
 refine RunL.op rfl rfl (OpJ.shlV (k := j + 1) rfl rfl (by omega) (by omega) ?_)
 have hfin : DInv r w c 0 (q * 2 ^ (j + 1)) s := by have h := DInv.last (g3 ▸ hD) ((shl_zero hw64 hj).1 h4); rw [g3]; exact h
 refine RunL.set (congrArg U (Int.emod_eq_of_lt hfin.q64.1 hfin.q64.2)) ?_
 refine sx 1 ?_
 refine RunL.op rfl rfl (OpJ.store1 T133 rfl rfl rfl up (by simp; omega) ?_)
 simp only [Int.toNat_natCast, Nat.zero_add, List.set_set]
 refine kp [1, 4, 5, 10, 11] rfl ?_
 refine Run.exit ?_
 refine Run.region ?_
 first | (have hfin0 := hfin) | (obtain rfl : k = 0 := (by omega); have hfin := hD)
 obtain ⟨q0', q1', hL, hO'⟩ := hnext _ _ hfin
 rw [hL]
 refine sx 2 ?_
 refine RunL.weak (L' := [pt b4 (blk [U q0', U q1'] 224)]) (Keep.sub (kt (ks := [1, 4, 5, 10, 11]) rfl)) gv (RunL.nil ?_)
 exact ⟨_, by omega, i + 1, q0', q1', _, rfl, by omega, hO', rfl, rfl⟩
 refine Run.skip ?_
 refine sr ?_
 refine mvo rfl rfl ?_
 refine RunL.op rfl rfl (OpJ.shrU (k := 63) rfl rfl (by omega) ?_)
 refine asg rfl rfl ?_
 refine kp [1, 4, 5, 6, 7, 8, 9, 10, 11] rfl ?_
 refine sr ?_
 refine mvo rfl rfl ?_
 refine RunL.op rfl rfl (OpJ.shl1 rfl rfl ?_)
 refine sx 2 ?_
 refine RunL.op rfl rfl (OpJ.shrV (k := j) rfl rfl (by omega) (by omega) ?_)
 refine RunL.op rfl rfl (OpJ.oneU rfl rfl (div_u64 hw64 j) ?_)
 refine RunL.op rfl rfl (OpJ.orBit (a := s % 9223372036854775808) rfl rfl (by omega) (by omega) (by constructor <;> omega) ?_)
 refine asg rfl rfl ?_
 refine kp [1, 4, 5, 6, 7, 8, 9, 10, 11] rfl ?_
 refine sr ?_
 refine sx 2 ?_
 refine RunL.op rfl rfl (OpJ.loadF T133 rfl pk (getset (l := [U q0, U q1]) (show i < 2 by omega)) ?_)
 refine RunL.op rfl rfl (OpJ.shl1 rfl rfl ?_)
 refine sx 1 ?_
 refine RunL.op rfl rfl (OpJ.store1 T133 rfl rfl rfl up (by simp; omega) ?_)
 simp only [Int.toNat_natCast, Nat.zero_add, List.set_set]
 refine kp [1, 4, 5, 6, 7, 8, 9, 10, 11] rfl ?_
 refine sr ?_
 refine sx 3 ?_
 first | refine RunL.splitP (t := 51) rfl (fun g5 => ?_) (fun g5 => ?_) | refine RunL.split (t := 51) rfl (fun g5 => ?_) (fun g5 => ?_)
 refine sx 4 ?_
 refine kp [1, 4, 5, 6, 7, 8, 10, 11, 55] rfl ?_
 refine Run.true rfl ?_
 refine sr ?_
 refine sx 2 ?_
 refine RunL.op rfl rfl (OpJ.sub rfl rfl ?_)
 refine asg rfl rfl ?_
 refine kp [1, 4, 5, 6, 7, 8, 10, 11] rfl ?_
 refine Run.region ?_
 refine sx 2 ?_
 refine RunL.op rfl rfl (OpJ.loadF T133 rfl pk (getset (l := [U q0, U q1]) (show i < 2 by omega)) ?_)
 refine RunL.op rfl rfl (OpJ.orBit (a := q) rfl rfl (by omega) (by omega) (by omega) ?_)
 refine sx 1 ?_
 refine RunL.op rfl rfl (OpJ.store1 T133 rfl rfl rfl up (by simp; omega) ?_)
 simp only [Int.toNat_natCast, Nat.zero_add, List.set_set]
 refine kp [1, 4, 5, 6, 7, 8, 10, 11] rfl ?_
 refine Run.region ?_
 have hb := lo32 0; have hbit : 0 ≤ w / 2 ^ j % 2 ∧ w / 2 ^ j % 2 ≤ 1 := by constructor <;> omega
 first | have hnew : DInv r w c j (q * 2 + 1) (IntKind.u64.wrap (s % 9223372036854775808 * 2 + w / 2 ^ j % 2 - c)) := (by have e := wrap_u64 (s % 9223372036854775808 * 2 + w / 2 ^ j % 2 - c); rw [e, show (s % 9223372036854775808 * 2 + w / 2 ^ j % 2 - c) % 18446744073709551616 = 2 * s + w / 2 ^ j % 2 - c by omega, Int.mul_comm q 2]; exact (hD.step hj).1 (by omega)) | have hnew : DInv r w c j (q * 2 % 18446744073709551616) (s % 9223372036854775808 * 2 + w / 2 ^ j % 2) := (by rw [show q * 2 % 18446744073709551616 = 2 * q by omega, show s % 9223372036854775808 * 2 + w / 2 ^ j % 2 = 2 * s + w / 2 ^ j % 2 by omega]; exact (hD.step hj).2 (by omega))
 refine sx 3 ?_
 refine RunL.set (congrArg I (show ((j + 1 : Nat) : Int) - 1 - 1 = (j : Int) - 1 by omega)) ?_
 refine RunL.weak (L' := [pt b4 (blk ([U q0, U q1].set i (U (q * 2 + 1))) 224)]) (Keep.sub (kt (ks := [1, 4, 5, 6, 7, 8, 10, 11]) rfl)) gv (RunL.nil ?_)
 exact ⟨_, by omega, j, _, _, rfl, hnew, rfl, rfl⟩
 refine sx 4 ?_
 refine kp [1, 4, 5, 6, 7, 8, 10, 11, 55] rfl ?_
 first | refine Run.if rfl (fun h6 => ?_) (fun h6 => ?_) | refine Run.cond rfl (fun h6 => ?_) (fun h6 => ?_)
 refine sr ?_
 refine sx 2 ?_
 refine RunL.op rfl rfl (OpJ.sub rfl rfl ?_)
 refine asg rfl rfl ?_
 refine kp [1, 4, 5, 6, 7, 8, 10, 11] rfl ?_
 refine Run.region ?_
 refine sx 2 ?_
 refine RunL.op rfl rfl (OpJ.loadF T133 rfl pk (getset (l := [U q0, U q1]) (show i < 2 by omega)) ?_)
 refine RunL.op rfl rfl (OpJ.orBit (a := q) rfl rfl (by omega) (by omega) (by omega) ?_)
 refine sx 1 ?_
 refine RunL.op rfl rfl (OpJ.store1 T133 rfl rfl rfl up (by simp; omega) ?_)
 simp only [Int.toNat_natCast, Nat.zero_add, List.set_set]
 refine kp [1, 4, 5, 6, 7, 8, 10, 11] rfl ?_
 refine Run.region ?_
 have hb := lo32 0; have hbit : 0 ≤ w / 2 ^ j % 2 ∧ w / 2 ^ j % 2 ≤ 1 := by constructor <;> omega
 first | have hnew : DInv r w c j (q * 2 + 1) (IntKind.u64.wrap (s % 9223372036854775808 * 2 + w / 2 ^ j % 2 - c)) := (by have e := wrap_u64 (s % 9223372036854775808 * 2 + w / 2 ^ j % 2 - c); rw [e, show (s % 9223372036854775808 * 2 + w / 2 ^ j % 2 - c) % 18446744073709551616 = 2 * s + w / 2 ^ j % 2 - c by omega, Int.mul_comm q 2]; exact (hD.step hj).1 (by omega)) | have hnew : DInv r w c j (q * 2 % 18446744073709551616) (s % 9223372036854775808 * 2 + w / 2 ^ j % 2) := (by rw [show q * 2 % 18446744073709551616 = 2 * q by omega, show s % 9223372036854775808 * 2 + w / 2 ^ j % 2 = 2 * s + w / 2 ^ j % 2 by omega]; exact (hD.step hj).2 (by omega))
 refine sx 3 ?_
 refine RunL.set (congrArg I (show ((j + 1 : Nat) : Int) - 1 - 1 = (j : Int) - 1 by omega)) ?_
 refine RunL.weak (L' := [pt b4 (blk ([U q0, U q1].set i (U (q * 2 + 1))) 224)]) (Keep.sub (kt (ks := [1, 4, 5, 6, 7, 8, 10, 11]) rfl)) gv (RunL.nil ?_)
 exact ⟨_, by omega, j, _, _, rfl, hnew, rfl, rfl⟩
 refine Run.skip ?_
 refine Run.region ?_
 have hb := lo32 0; have hbit : 0 ≤ w / 2 ^ j % 2 ∧ w / 2 ^ j % 2 ≤ 1 := by constructor <;> omega
 first | have hnew : DInv r w c j (q * 2 + 1) (IntKind.u64.wrap (s % 9223372036854775808 * 2 + w / 2 ^ j % 2 - c)) := (by have e := wrap_u64 (s % 9223372036854775808 * 2 + w / 2 ^ j % 2 - c); rw [e, show (s % 9223372036854775808 * 2 + w / 2 ^ j % 2 - c) % 18446744073709551616 = 2 * s + w / 2 ^ j % 2 - c by omega, Int.mul_comm q 2]; exact (hD.step hj).1 (by omega)) | have hnew : DInv r w c j (q * 2 % 18446744073709551616) (s % 9223372036854775808 * 2 + w / 2 ^ j % 2) := (by rw [show q * 2 % 18446744073709551616 = 2 * q by omega, show s % 9223372036854775808 * 2 + w / 2 ^ j % 2 = 2 * s + w / 2 ^ j % 2 by omega]; exact (hD.step hj).2 (by omega))
 refine sx 3 ?_
 refine RunL.set (congrArg I (show ((j + 1 : Nat) : Int) - 1 - 1 = (j : Int) - 1 by omega)) ?_
 refine RunL.weak (L' := [pt b4 (blk ([U q0, U q1].set i (U (q * 2 % 18446744073709551616))) 224)]) (Keep.sub (kt (ks := [1, 4, 5, 6, 7, 8, 10, 11]) rfl)) gv (RunL.nil ?_)
 exact ⟨_, by omega, j, _, _, rfl, hnew, rfl, rfl⟩
 refine sx 6 ?_
 refine kp [1, 4, 5, 6, 7, 8, 10, 11, 27] rfl ?_
 refine Run.false rfl ?_
 refine Run.skip ?_
 refine sr ?_
 refine mvo rfl rfl ?_
 refine RunL.op rfl rfl (OpJ.shrU (k := 63) rfl rfl (by omega) ?_)
 refine asg rfl rfl ?_
 refine kp [1, 4, 5, 6, 7, 8, 9, 10, 11] rfl ?_
 refine sr ?_
 refine mvo rfl rfl ?_
 refine RunL.op rfl rfl (OpJ.shl1 rfl rfl ?_)
 refine sx 2 ?_
 refine RunL.op rfl rfl (OpJ.shrV (k := j) rfl rfl (by omega) (by omega) ?_)
 refine RunL.op rfl rfl (OpJ.oneU rfl rfl (div_u64 hw64 j) ?_)
 refine RunL.op rfl rfl (OpJ.orBit (a := s % 9223372036854775808) rfl rfl (by omega) (by omega) (by constructor <;> omega) ?_)
 refine asg rfl rfl ?_
 refine kp [1, 4, 5, 6, 7, 8, 9, 10, 11] rfl ?_
 refine sr ?_
 refine sx 2 ?_
 refine RunL.op rfl rfl (OpJ.loadF T133 rfl pk (getset (l := [U q0, U q1]) (show i < 2 by omega)) ?_)
 refine RunL.op rfl rfl (OpJ.shl1 rfl rfl ?_)
 refine sx 1 ?_
 refine RunL.op rfl rfl (OpJ.store1 T133 rfl rfl rfl up (by simp; omega) ?_)
 simp only [Int.toNat_natCast, Nat.zero_add, List.set_set]
 refine kp [1, 4, 5, 6, 7, 8, 9, 10, 11] rfl ?_
 refine sr ?_
 refine sx 3 ?_
 first | refine RunL.splitP (t := 51) rfl (fun g7 => ?_) (fun g7 => ?_) | refine RunL.split (t := 51) rfl (fun g7 => ?_) (fun g7 => ?_)
 refine sx 4 ?_
 refine kp [1, 4, 5, 6, 7, 8, 10, 11, 55] rfl ?_
 refine Run.true rfl ?_
 refine sr ?_
 refine sx 2 ?_
 refine RunL.op rfl rfl (OpJ.sub rfl rfl ?_)
 refine asg rfl rfl ?_
 refine kp [1, 4, 5, 6, 7, 8, 10, 11] rfl ?_
 refine Run.region ?_
 refine sx 2 ?_
 refine RunL.op rfl rfl (OpJ.loadF T133 rfl pk (getset (l := [U q0, U q1]) (show i < 2 by omega)) ?_)
 refine RunL.op rfl rfl (OpJ.orBit (a := q) rfl rfl (by omega) (by omega) (by omega) ?_)
 refine sx 1 ?_
 refine RunL.op rfl rfl (OpJ.store1 T133 rfl rfl rfl up (by simp; omega) ?_)
 simp only [Int.toNat_natCast, Nat.zero_add, List.set_set]
 refine kp [1, 4, 5, 6, 7, 8, 10, 11] rfl ?_
 refine Run.region ?_
 have hb := lo32 0; have hbit : 0 ≤ w / 2 ^ j % 2 ∧ w / 2 ^ j % 2 ≤ 1 := by constructor <;> omega
 first | have hnew : DInv r w c j (q * 2 + 1) (IntKind.u64.wrap (s % 9223372036854775808 * 2 + w / 2 ^ j % 2 - c)) := (by have e := wrap_u64 (s % 9223372036854775808 * 2 + w / 2 ^ j % 2 - c); rw [e, show (s % 9223372036854775808 * 2 + w / 2 ^ j % 2 - c) % 18446744073709551616 = 2 * s + w / 2 ^ j % 2 - c by omega, Int.mul_comm q 2]; exact (hD.step hj).1 (by omega)) | have hnew : DInv r w c j (q * 2 % 18446744073709551616) (s % 9223372036854775808 * 2 + w / 2 ^ j % 2) := (by rw [show q * 2 % 18446744073709551616 = 2 * q by omega, show s % 9223372036854775808 * 2 + w / 2 ^ j % 2 = 2 * s + w / 2 ^ j % 2 by omega]; exact (hD.step hj).2 (by omega))
 refine sx 3 ?_
 refine RunL.set (congrArg I (show ((j + 1 : Nat) : Int) - 1 - 1 = (j : Int) - 1 by omega)) ?_
 refine RunL.weak (L' := [pt b4 (blk ([U q0, U q1].set i (U (q * 2 + 1))) 224)]) (Keep.sub (kt (ks := [1, 4, 5, 6, 7, 8, 10, 11]) rfl)) gv (RunL.nil ?_)
 exact ⟨_, by omega, j, _, _, rfl, hnew, rfl, rfl⟩
 refine sx 4 ?_
 refine kp [1, 4, 5, 6, 7, 8, 10, 11, 55] rfl ?_
 first | refine Run.if rfl (fun h8 => ?_) (fun h8 => ?_) | refine Run.cond rfl (fun h8 => ?_) (fun h8 => ?_)
 refine sr ?_
 refine sx 2 ?_
 refine RunL.op rfl rfl (OpJ.sub rfl rfl ?_)
 refine asg rfl rfl ?_
 refine kp [1, 4, 5, 6, 7, 8, 10, 11] rfl ?_
 refine Run.region ?_
 refine sx 2 ?_
 refine RunL.op rfl rfl (OpJ.loadF T133 rfl pk (getset (l := [U q0, U q1]) (show i < 2 by omega)) ?_)
 refine RunL.op rfl rfl (OpJ.orBit (a := q) rfl rfl (by omega) (by omega) (by omega) ?_)
 refine sx 1 ?_
 refine RunL.op rfl rfl (OpJ.store1 T133 rfl rfl rfl up (by simp; omega) ?_)
 simp only [Int.toNat_natCast, Nat.zero_add, List.set_set]
 refine kp [1, 4, 5, 6, 7, 8, 10, 11] rfl ?_
 refine Run.region ?_
 have hb := lo32 0; have hbit : 0 ≤ w / 2 ^ j % 2 ∧ w / 2 ^ j % 2 ≤ 1 := by constructor <;> omega
 first | have hnew : DInv r w c j (q * 2 + 1) (IntKind.u64.wrap (s % 9223372036854775808 * 2 + w / 2 ^ j % 2 - c)) := (by have e := wrap_u64 (s % 9223372036854775808 * 2 + w / 2 ^ j % 2 - c); rw [e, show (s % 9223372036854775808 * 2 + w / 2 ^ j % 2 - c) % 18446744073709551616 = 2 * s + w / 2 ^ j % 2 - c by omega, Int.mul_comm q 2]; exact (hD.step hj).1 (by omega)) | have hnew : DInv r w c j (q * 2 % 18446744073709551616) (s % 9223372036854775808 * 2 + w / 2 ^ j % 2) := (by rw [show q * 2 % 18446744073709551616 = 2 * q by omega, show s % 9223372036854775808 * 2 + w / 2 ^ j % 2 = 2 * s + w / 2 ^ j % 2 by omega]; exact (hD.step hj).2 (by omega))
 refine sx 3 ?_
 refine RunL.set (congrArg I (show ((j + 1 : Nat) : Int) - 1 - 1 = (j : Int) - 1 by omega)) ?_
 refine RunL.weak (L' := [pt b4 (blk ([U q0, U q1].set i (U (q * 2 + 1))) 224)]) (Keep.sub (kt (ks := [1, 4, 5, 6, 7, 8, 10, 11]) rfl)) gv (RunL.nil ?_)
 exact ⟨_, by omega, j, _, _, rfl, hnew, rfl, rfl⟩
 refine Run.skip ?_
 refine Run.region ?_
 have hb := lo32 0; have hbit : 0 ≤ w / 2 ^ j % 2 ∧ w / 2 ^ j % 2 ≤ 1 := by constructor <;> omega
 first | have hnew : DInv r w c j (q * 2 + 1) (IntKind.u64.wrap (s % 9223372036854775808 * 2 + w / 2 ^ j % 2 - c)) := (by have e := wrap_u64 (s % 9223372036854775808 * 2 + w / 2 ^ j % 2 - c); rw [e, show (s % 9223372036854775808 * 2 + w / 2 ^ j % 2 - c) % 18446744073709551616 = 2 * s + w / 2 ^ j % 2 - c by omega, Int.mul_comm q 2]; exact (hD.step hj).1 (by omega)) | have hnew : DInv r w c j (q * 2 % 18446744073709551616) (s % 9223372036854775808 * 2 + w / 2 ^ j % 2) := (by rw [show q * 2 % 18446744073709551616 = 2 * q by omega, show s % 9223372036854775808 * 2 + w / 2 ^ j % 2 = 2 * s + w / 2 ^ j % 2 by omega]; exact (hD.step hj).2 (by omega))
 refine sx 3 ?_
 refine RunL.set (congrArg I (show ((j + 1 : Nat) : Int) - 1 - 1 = (j : Int) - 1 by omega)) ?_
 refine RunL.weak (L' := [pt b4 (blk ([U q0, U q1].set i (U (q * 2 % 18446744073709551616))) 224)]) (Keep.sub (kt (ks := [1, 4, 5, 6, 7, 8, 10, 11]) rfl)) gv (RunL.nil ?_)
 exact ⟨_, by omega, j, _, _, rfl, hnew, rfl, rfl⟩
 refine Run.exit ?_
 refine Run.region ?_
 first | (have hfin0 := hfin) | (obtain rfl : k = 0 := (by omega); have hfin := hD)
 obtain ⟨q0', q1', hL, hO'⟩ := hnext _ _ hfin
 rw [hL]
 refine sx 2 ?_
 refine RunL.weak (L' := [pt b4 (blk [U q0', U q1'] 224)]) (Keep.sub (kt (ks := [1, 4, 5, 10, 11]) rfl)) gv (RunL.nil ?_)
 exact ⟨_, by omega, i + 1, q0', q1', _, rfl, by omega, hO', rfl, rfl⟩
 refine Run.exit ?_
 refine sr ?_
 refine sx 2 ?_
 refine RunL.op rfl rfl (OpJ.storeW T224 rfl rfl rfl rfl (by simp [Value.oneCell', Tg.c, Ln.c, En.c, Ac.c, Cl.c, Ky.c, Qy.c, Sb, Iv, Cs.c]) up ?_)
 refine asg rfl rfl ?_
 refine kp [4, 5] rfl ?_
 refine Run.ret ?_
 obtain rfl : i = 2 := by omega
 exact ret_one (.cellA T224 rfl pk (by rfl) (.tmp rfl .nil)) (OI.ret hlo hc hO) gv
end
theorem c_divide (m c : Int) (h0 : 0 ≤ m) (h1 : m < 340282366920938463463374607431768211456) (hc : 0 < c) (hcu : u64 c) : AC Tryz.prog 168 ⟨[.agg ⟨[U (m / 18446744073709551616), U (m % 18446744073709551616)]⟩, U c]⟩ (stars []) (Ret (.tuple ⟨[.agg ⟨[U (m / c / 18446744073709551616), U (m / c % 18446744073709551616)]⟩, U (m % c)]⟩) []) := by
  have h := c_divide0 (m / 18446744073709551616) (m % 18446744073709551616) c (by omega) (by omega) hc hcu
  rw [show m / 18446744073709551616 * 18446744073709551616 + m % 18446744073709551616 = m by omega] at h
  exact h
section
attribute [local irreducible] OpJ RunL Run RunD DetJ pt own star Rd RdS
theorem c_MulDiv (a b c mode : Int) (ha : i64 a) (hb : i64 b) (hc : i64 c) : AC Tryz.prog 126 ⟨[I a, I b, I c, I mode]⟩ (stars []) (Ret (.tuple ⟨[I (mdN a b c mode), I (mdE a b c mode)]⟩) []) := by
 have ua := mag_u64 ha; have ub := mag_u64 hb; have uc := mag_u64 hc; have pl := prod_le ha hb; have pz := @prod_zero a b
 refine AC.go Tryz.func126 rfl (Nat.le_of_ble_eq_true rfl) fun β => ?_
 refine sr ?_
 refine sx 2 ?_
 refine kp [0, 1, 2, 3] rfl ?_
 refine Run.seq ?_
 refine sr ?_
 refine sx 3 ?_
 first | refine RunL.splitP (t := 17) rfl (fun g1 => ?_) (fun g1 => ?_) | refine RunL.split (t := 17) rfl (fun g1 => ?_) (fun g1 => ?_)
 refine sx 3 ?_
 refine kp [0, 1, 2, 3, 20] rfl ?_
 refine Run.true rfl ?_
 refine sr ?_
 refine sx 2 ?_
 refine kp [8, 9] rfl ?_
 refine Run.ret ?_
 exact ret_one (.tmp rfl (.tmp rfl .nil)) (md_kind (by omega)) gv
 refine sx 3 ?_
 refine kp [0, 1, 2, 3, 20] rfl ?_
 first | refine Run.if rfl (fun h2 => ?_) (fun h2 => ?_) | refine Run.cond rfl (fun h2 => ?_) (fun h2 => ?_)
 refine sr ?_
 refine sx 2 ?_
 refine kp [8, 9] rfl ?_
 refine Run.ret ?_
 exact ret_one (.tmp rfl (.tmp rfl .nil)) (md_kind (by omega)) gv
 refine Run.skip ?_
 refine Run.seq ?_
 refine sr ?_
 refine sx 2 ?_
 refine kp [0, 1, 2, 3, 22] rfl ?_
 first | refine Run.if rfl (fun h3 => ?_) (fun h3 => ?_) | refine Run.cond rfl (fun h3 => ?_) (fun h3 => ?_)
 refine sr ?_
 refine sx 2 ?_
 refine kp [8, 9] rfl ?_
 refine Run.ret ?_
 exact ret_one (.tmp rfl (.tmp rfl .nil)) (md_zero (by omega) (by omega)) gv
 refine Run.skip ?_
 refine sr ?_
 have cpos := mag_pos h3; have q0 := quo_le pl.1 cpos; have r0 := rem_lt (m := mag a * mag b) cpos
 refine mvo rfl rfl ?_
 refine RunL.call C167 rfl rfl rfl (c_mag _ (by omega)) .nil ?_
 refine mvo rfl rfl ?_
 refine RunL.call C167 rfl rfl rfl (c_mag _ (by omega)) .nil ?_
 refine RunL.call C166 rfl rfl rfl (c_multiply _ _ (by omega) (by omega)) .nil ?_
 refine RunL.op rfl rfl (OpJ.alloc Z224 fun b10 => ?_)
 refine RunL.op rfl rfl (OpJ.storeW T224 rfl rfl rfl rfl (by simp [Value.oneCell', Tg.c, Ln.c, En.c, Ac.c, Cl.c, Ky.c, Qy.c, Sb, Iv, Cs.c]) up ?_)
 refine kp [0, 1, 2, 3, 10] rfl ?_
 refine sr ?_
 refine RunL.cut (t := 11) (v := Bo (negB a b c)) (kt (ks := [2, 3, 10]) rfl) ?_ ?_
 refine sx 4 ?_
 first | refine RunL.splitP (t := 31) rfl (fun g4 => ?_) (fun g4 => ?_) | refine RunL.split (t := 31) rfl (fun g4 => ?_) (fun g4 => ?_)
 refine sx 10 ?_
 exact RunL.nil ⟨.cons (by first | rfl | (show some (Value.bool _) = some (Value.bool _); exact congrArg some (congrArg Value.bool (negB_no (a := a) (b := b) (c := c) pl.1 g4))) | (show some (Value.bool _) = some (Value.bool _); exact congrArg some (congrArg Value.bool (negB_yes (a := a) (b := b) (c := c) pl.1 g4))) | (show some (Value.bool _) = some (Value.bool _); simp_all)) (kt (ks := [2, 3, 10]) rfl), rfl⟩
 refine sx 10 ?_
 exact RunL.nil ⟨.cons (by first | rfl | (show some (Value.bool _) = some (Value.bool _); exact congrArg some (congrArg Value.bool (negB_no (a := a) (b := b) (c := c) pl.1 g4))) | (show some (Value.bool _) = some (Value.bool _); exact congrArg some (congrArg Value.bool (negB_yes (a := a) (b := b) (c := c) pl.1 g4))) | (show some (Value.bool _) = some (Value.bool _); simp_all)) (kt (ks := [2, 3, 10]) rfl), rfl⟩
 refine Run.seq ?_
 refine regionD HM ?_
 refine RunD.mono (K' := fun E' L' => ∃ b12 : Nat, E' = [(2, I c), (3, I mode), (11, Bo (negB a b c)), (12, .pointer (some ⟨b12, 0, none⟩)), (13, U (mag a * mag b % mag c))] ∧ L' = [pt b12 (blk [U (mag a * mag b / mag c / 18446744073709551616), U (mag a * mag b / mag c % 18446744073709551616)] 224)]) ?_ ?_
 first | refine RunD.takeW 0 rfl rfl kr T224 rfl pk (by rfl) ?_ | refine RunD.takeP 0 rfl rfl kr T224 rfl pk (by simp) ?_ | refine RunD.takeE 0 rfl rfl kr T224 rfl pk (by assumption) (by exact fun _ => rfl) rfl (by decide) ?_
 refine tk 1 rfl rfl rfl (DetJ.move rfl) ?_
 refine RunD.two 2 7 [false, true] [true, true] rfl rfl rfl rfl rfl rfl kr kr kr (OpJ.callRet C167 rfl rfl (c_mag _ (by omega)) .nil ⟨po, ?_⟩) (OpJ.alloc Z224 fun b12 => ⟨po, ?_⟩)
 refine RunD.two 3 7 [false] [true] rfl rfl rfl rfl rfl rfl kr kr kr (OpJ.callRet C168 rfl rfl (c_divide _ _ (by omega) (by omega) (by omega) (by omega)) .nil ⟨po, ?_⟩) (OpJ.alloc Z224 fun b12 => ⟨po, ?_⟩)
 refine tk 4 rfl rfl rfl (DetJ.move rfl) ?_
 refine tk 5 rfl rfl rfl (DetJ.extract rfl rfl) ?_
 refine tk 6 rfl rfl rfl (DetJ.extract rfl rfl) ?_
 refine RunD.op 7 [true, true, true] rfl rfl rfl kr kr (OpJ.alloc Z224 fun b12 => ⟨po, ?_⟩)
 refine RunD.op 8 [true, false, false] rfl rfl rfl kr kr (OpJ.storeW T224 rfl rfl rfl rfl (by simp [Value.oneCell', Tg.c, Ln.c, En.c, Ac.c, Cl.c, Ky.c, Qy.c, Sb, Iv, Cs.c]) up ⟨po, ?_⟩)
 refine tk 9 rfl rfl rfl (DetJ.assign rfl) ?_
 exact RunD.weak (E' := [(2, I c), (3, I mode), (11, Bo (negB a b c)), (12, .pointer (some ⟨b12, 0, none⟩)), (13, U (mag a * mag b % mag c))]) (L' := [pt b12 (blk [U (mag a * mag b / mag c / 18446744073709551616), U (mag a * mag b / mag c % 18446744073709551616)] 224)]) (Keep.sub (kt (ks := [2, 3, 11, 12, 13]) rfl)) gv (RunD.done kr ⟨_, rfl, rfl⟩)
 refine RunD.op 3 [false] rfl rfl rfl kr kr (OpJ.callRet C168 rfl rfl (c_divide _ _ (by omega) (by omega) (by omega) (by omega)) .nil ⟨po, ?_⟩)
 refine tk 4 rfl rfl rfl (DetJ.move rfl) ?_
 refine tk 5 rfl rfl rfl (DetJ.extract rfl rfl) ?_
 refine tk 6 rfl rfl rfl (DetJ.extract rfl rfl) ?_
 refine RunD.op 8 [true, false, false] rfl rfl rfl kr kr (OpJ.storeW T224 rfl rfl rfl rfl (by simp [Value.oneCell', Tg.c, Ln.c, En.c, Ac.c, Cl.c, Ky.c, Qy.c, Sb, Iv, Cs.c]) up ⟨po, ?_⟩)
 refine tk 9 rfl rfl rfl (DetJ.assign rfl) ?_
 exact RunD.weak (E' := [(2, I c), (3, I mode), (11, Bo (negB a b c)), (12, .pointer (some ⟨b12, 0, none⟩)), (13, U (mag a * mag b % mag c))]) (L' := [pt b12 (blk [U (mag a * mag b / mag c / 18446744073709551616), U (mag a * mag b / mag c % 18446744073709551616)] 224)]) (Keep.sub (kt (ks := [2, 3, 11, 12, 13]) rfl)) gv (RunD.done kr ⟨_, rfl, rfl⟩)
 refine RunD.op 2 [false, true] rfl rfl rfl kr kr (OpJ.callRet C167 rfl rfl (c_mag _ (by omega)) .nil ⟨po, ?_⟩)
 refine RunD.op 3 [false] rfl rfl rfl kr kr (OpJ.callRet C168 rfl rfl (c_divide _ _ (by omega) (by omega) (by omega) (by omega)) .nil ⟨po, ?_⟩)
 refine tk 4 rfl rfl rfl (DetJ.move rfl) ?_
 refine tk 5 rfl rfl rfl (DetJ.extract rfl rfl) ?_
 refine tk 6 rfl rfl rfl (DetJ.extract rfl rfl) ?_
 refine RunD.op 8 [true, false, false] rfl rfl rfl kr kr (OpJ.storeW T224 rfl rfl rfl rfl (by simp [Value.oneCell', Tg.c, Ln.c, En.c, Ac.c, Cl.c, Ky.c, Qy.c, Sb, Iv, Cs.c]) up ⟨po, ?_⟩)
 refine tk 9 rfl rfl rfl (DetJ.assign rfl) ?_
 exact RunD.weak (E' := [(2, I c), (3, I mode), (11, Bo (negB a b c)), (12, .pointer (some ⟨b12, 0, none⟩)), (13, U (mag a * mag b % mag c))]) (L' := [pt b12 (blk [U (mag a * mag b / mag c / 18446744073709551616), U (mag a * mag b / mag c % 18446744073709551616)] 224)]) (Keep.sub (kt (ks := [2, 3, 11, 12, 13]) rfl)) gv (RunD.done kr ⟨_, rfl, rfl⟩)
 rintro _ _ ⟨b12, rfl, rfl⟩
 refine Run.seq ?_
 refine sr ?_
 refine sx 3 ?_
 refine kp [2, 3, 11, 12, 13, 50] rfl ?_
 first | refine Run.if rfl (fun h5 => ?_) (fun h5 => ?_) | refine Run.cond rfl (fun h5 => ?_) (fun h5 => ?_)
 refine sr ?_
 refine sx 2 ?_
 refine kp [8, 9] rfl ?_
 refine Run.ret ?_
 exact ret_one (.tmp rfl (.tmp rfl .nil)) (md_over (by omega) (by omega) (by have := @md_size_ge a b c mode; omega)) gv
 refine Run.skip ?_
 refine sr ?_
 refine sx 2 ?_
 refine RunL.set (congrArg U (show _ = mag a * mag b / mag c by omega)) ?_
 refine asg rfl rfl ?_
 refine kp [2, 3, 11, 13, 14] rfl ?_
 refine Run.seq ?_
 refine sr ?_
 refine sx 4 ?_
 refine RunL.set (congrArg U (show _ = mag a * mag b / mag c % 2 by rw [Int.tmod_eq_emod_of_nonneg (by omega)])) ?_
 refine sx 3 ?_
 refine RunL.call C167 rfl rfl rfl (c_mag _ (by omega)) .nil ?_
 refine RunL.call C169 rfl rfl rfl (c_away _ _ _ _ _ (by omega) (by omega) (by omega)) .nil ?_
 refine kp [11, 14, 61] rfl ?_
 first | refine Run.if rfl (fun h6 => ?_) (fun h6 => ?_) | refine Run.cond rfl (fun h6 => ?_) (fun h6 => ?_)
 refine sr ?_
 refine mvo rfl rfl ?_
 refine RunL.op rfl rfl (OpJ.add rfl rfl ?_)
 refine RunL.set (congrArg U (wrap_u64 _)) ?_
 refine asg rfl rfl ?_
 refine kp [11, 14] rfl ?_
 refine sr ?_
 refine sx 2 ?_
 refine kp [11, 14, 65] rfl ?_
 first | refine Run.if rfl (fun h7 => ?_) (fun h7 => ?_) | refine Run.cond rfl (fun h7 => ?_) (fun h7 => ?_)
 refine sr ?_
 refine sx 2 ?_
 refine kp [8, 9] rfl ?_
 refine Run.ret ?_
 exact ret_one (.tmp rfl (.tmp rfl .nil)) (md_over (by omega) (by omega) (by rw [mdSize, if_pos h6]; omega)) gv
 refine Run.skip ?_
 refine sr ?_
 refine sx 2 ?_
 refine RunL.call C170 rfl rfl rfl (c_signed _ _ (by omega)) .nil ?_
 refine sx 4 ?_
 refine kp [8, 9] rfl ?_
 refine Run.ret ?_
 exact ret_one (.tmp rfl (.tmp rfl .nil)) (md_main (by omega) (by omega) rfl rfl (by rw [mdSize, if_pos h6]; omega)) gv
 refine Run.skip ?_
 refine sr ?_
 refine sx 2 ?_
 refine RunL.call C170 rfl rfl rfl (c_signed _ _ (by omega)) .nil ?_
 refine sx 4 ?_
 refine kp [8, 9] rfl ?_
 refine Run.ret ?_
 exact ret_one (.tmp rfl (.tmp rfl .nil)) (md_main (by omega) (by omega) rfl rfl (by rw [mdSize, if_neg (by simp [h6])]; omega)) gv
theorem c_is (n : Int) : AC Tryz.prog 157 ⟨[I n]⟩ (stars []) (Ret (Bo (inB n 0 109572)) []) := by
 refine AC.go Tryz.func157 rfl (Nat.le_of_ble_eq_true rfl) fun β => ?_
 refine sr ?_
 refine asg rfl rfl ?_
 refine kp [0] rfl ?_
 refine sr ?_
 refine sx 3 ?_
 first | refine RunL.splitP (t := 5) rfl (fun g1 => ?_) (fun g1 => ?_) | refine RunL.split (t := 5) rfl (fun g1 => ?_) (fun g1 => ?_)
 refine sx 4 ?_
 refine kp [2] rfl ?_
 refine Run.ret ?_
 exact ret_one (.tmp rfl .nil) (by first | (simp [tup, inB,  *]; done) | (exfalso; omega)) gv
 refine sx 4 ?_
 refine kp [2] rfl ?_
 refine Run.ret ?_
 exact ret_one (.tmp rfl .nil) (by first | (simp [tup, inB,  *]; done) | (exfalso; omega)) gv
theorem c_Leap (y : Int) : AC Tryz.prog 182 ⟨[I y]⟩ (stars []) (Ret (Bo (leapB y)) []) := by
 refine AC.go Tryz.func182 rfl (Nat.le_of_ble_eq_true rfl) fun β => ?_
 refine sr ?_
 refine asg rfl rfl ?_
 refine kp [0] rfl ?_
 refine sr ?_
 refine sx 4 ?_
 first | refine RunL.splitP (t := 6) rfl (fun g1 => ?_) (fun g1 => ?_) | refine RunL.split (t := 6) rfl (fun g1 => ?_) (fun g1 => ?_)
 refine sx 5 ?_
 first | refine RunL.splitP (t := 11) rfl (fun g2 => ?_) (fun g2 => ?_) | refine RunL.split (t := 11) rfl (fun g2 => ?_) (fun g2 => ?_)
 refine sx 5 ?_
 refine kp [2] rfl ?_
 refine Run.ret ?_
 exact ret_one (.tmp rfl .nil) (by first | (simp [tup, leapB,  *]; done) | (exfalso; omega)) gv
 refine sx 5 ?_
 refine kp [2] rfl ?_
 refine Run.ret ?_
 exact ret_one (.tmp rfl .nil) (by first | (simp [tup, leapB,  *]; done) | (exfalso; omega)) gv
 refine sx 10 ?_
 refine kp [2] rfl ?_
 refine Run.ret ?_
 exact ret_one (.tmp rfl .nil) (by first | (simp [tup, leapB,  *]; done) | (exfalso; omega)) gv
theorem c_Length (y m : Int) (R : HP) (hR : Rd R ⟨0, 0, none⟩ lensC) : AC Tryz.prog 159 ⟨[I y, I m]⟩ (stars [R]) (Ret (I (lenM (leapB y) m)) [R]) := by
 refine AC.go Tryz.func159 rfl (Nat.le_of_ble_eq_true rfl) fun β => ?_
 refine sr ?_
 refine asg rfl rfl ?_
 refine kp [0, 1] rfl ?_
 refine Run.seq ?_
 refine Run.block ?_
 refine sr ?_
 refine sx 3 ?_
 first | refine RunL.splitP (t := 8) rfl (fun g1 => ?_) (fun g1 => ?_) | refine RunL.split (t := 8) rfl (fun g1 => ?_) (fun g1 => ?_)
 refine sx 4 ?_
 refine kp [0, 1, 5] rfl ?_
 refine Run.true rfl ?_
 refine sr ?_
 refine asg rfl rfl ?_
 refine kp [4] rfl ?_
 refine Run.ret ?_
 exact ret_one (.tmp rfl .nil) (congrArg I (show _ = _ by rw [lenM]; simp [*]; try omega)) gv
 refine sx 4 ?_
 refine kp [0, 1, 5] rfl ?_
 first | refine Run.if rfl (fun h2 => ?_) (fun h2 => ?_) | refine Run.cond rfl (fun h2 => ?_) (fun h2 => ?_)
 refine sr ?_
 refine asg rfl rfl ?_
 refine kp [4] rfl ?_
 refine Run.ret ?_
 exact ret_one (.tmp rfl .nil) (congrArg I (show _ = _ by rw [lenM]; simp [*]; try omega)) gv
 refine sr ?_
 refine sx 3 ?_
 first | refine RunL.splitP (t := 15) rfl (fun g3 => ?_) (fun g3 => ?_) | refine RunL.split (t := 15) rfl (fun g3 => ?_) (fun g3 => ?_)
 refine sx 1 ?_
 refine RunL.callG C182 rfl rfl rfl rfl rfl (c_Leap _) .nil ?_
 refine sx 2 ?_
 refine kp [1, 12] rfl ?_
 first | refine Run.if rfl (fun h4 => ?_) (fun h4 => ?_) | refine Run.cond rfl (fun h4 => ?_) (fun h4 => ?_)
 refine sr ?_
 refine asg rfl rfl ?_
 refine kp [4] rfl ?_
 refine Run.ret ?_
 exact ret_one (.tmp rfl .nil) (congrArg I (show _ = _ by rw [lenM]; simp [*]; try omega)) gv
 refine Run.skip ?_
 refine sr ?_
 refine sx 3 ?_
 refine RunL.op rfl rfl (OpJ.load1 inferInstance rfl pk (hR.fld (lens_get (m := m) (by omega) (by omega))) ?_)
 refine asg rfl rfl ?_
 refine kp [4] rfl ?_
 refine Run.ret ?_
 exact ret_one (.tmp rfl .nil) (congrArg I (show _ = _ by rw [lenM]; simp [*]; try omega)) gv
 refine sx 4 ?_
 refine kp [1, 12] rfl ?_
 refine Run.false rfl ?_
 refine Run.skip ?_
 refine sr ?_
 refine sx 3 ?_
 refine RunL.op rfl rfl (OpJ.load1 inferInstance rfl pk (hR.fld (lens_get (m := m) (by omega) (by omega))) ?_)
 refine asg rfl rfl ?_
 refine kp [4] rfl ?_
 refine Run.ret ?_
 exact ret_one (.tmp rfl .nil) (congrArg I (show _ = _ by rw [lenM]; simp [*]; try omega)) gv
theorem c_before (y : Int) (h1 : 1900 ≤ y) (h2 : y ≤ 2200) : AC Tryz.prog 158 ⟨[I y]⟩ (stars []) (Ret (I (beforeF y)) []) := by
 refine AC.go Tryz.func158 rfl (Nat.le_of_ble_eq_true rfl) fun β => ?_
 refine sr ?_
 refine asg rfl rfl ?_
 refine kp [0] rfl ?_
 refine sr ?_
 refine mvo rfl rfl ?_
 refine RunL.op rfl rfl (OpJ.sub rfl rfl ?_)
 refine asg rfl rfl ?_
 refine kp [0, 3] rfl ?_
 refine sr ?_
 refine sx 4 ?_
 refine RunL.op rfl rfl (OpJ.sub rfl rfl ?_)
 refine sx 2 ?_
 refine RunL.op rfl rfl (OpJ.add rfl rfl ?_)
 refine RunL.op rfl rfl (OpJ.sub rfl rfl ?_)
 refine RunL.op rfl rfl (OpJ.add rfl rfl ?_)
 refine RunL.op rfl rfl (OpJ.sub rfl rfl ?_)
 refine asg rfl rfl ?_
 refine kp [0, 4] rfl ?_
 refine sr ?_
 refine mvo rfl rfl ?_
 refine RunL.op rfl rfl (OpJ.sub rfl rfl ?_)
 refine sx 2 ?_
 refine RunL.op rfl rfl (OpJ.add rfl rfl ?_)
 refine asg rfl rfl ?_
 refine kp [2] rfl ?_
 refine Run.ret ?_
 exact ret_one (.tmp rfl .nil) (congrArg I (before_code h1 h2)) gv
theorem c_Date (n : Int) (R : HP) (hR : Rd R ⟨0, 0, none⟩ lensC) : AC Tryz.prog 114 ⟨[I n]⟩ (stars [R]) (Outs (fun x : Int × Int × Int => inB n 0 109572 = true → ofB x.1 x.2.1 x.2.2 = true ∧ dayF x.1 x.2.1 x.2.2 = n) (fun x => .tuple ⟨[.agg ⟨[I x.1, I x.2.1, I x.2.2]⟩, I (if inB n 0 109572 = true then 0 else 11)]⟩) (fun _ => [R])) := by
 refine AC.go Tryz.func114 rfl (Nat.le_of_ble_eq_true rfl) fun β => ?_
 refine sr ?_
 refine RunL.op rfl rfl (OpJ.alloc Z185 fun b2 => ?_)
 refine asg rfl rfl ?_
 refine kp [0, 2] rfl ?_
 refine Run.seq ?_
 refine sr ?_
 refine mvo rfl rfl ?_
 refine RunL.call C157 rfl rfl rfl (c_is _) .nil ?_
 refine RunL.op rfl rfl (OpJ.not rfl ?_)
 refine kp [0, 2, 6] rfl ?_
 first | refine Run.if rfl (fun h1 => ?_) (fun h1 => ?_) | refine Run.cond rfl (fun h1 => ?_) (fun h1 => ?_)
 refine sr ?_
 refine sx 1 ?_
 refine RunL.op rfl rfl (OpJ.storeW T185 rfl rfl rfl rfl (by simp [Value.oneCell', Tg.c, Ln.c, En.c, Ac.c, Cl.c, Ky.c, Qy.c, Sb, Iv]) up ?_)
 refine asg rfl rfl ?_
 refine kp [2, 3] rfl ?_
 refine Run.ret ?_
 exact ret_out (0, 0, 0) (.cellA T185 rfl pk (by rfl) (.tmp rfl .nil)) (fun h => by simp_all) (by rw [if_neg (by simpa using h1)]; rfl) gv
 refine Run.skip ?_
 refine sr ?_
 have hn := inB_iff.1 (show inB n 0 109572 = true by simpa using h1)
 have hfst := before_first hn.1 hn.2
 refine sx 2 ?_
 refine RunL.set (congrArg I (show _ = n / 366 by rw [Int.tdiv_eq_ediv_of_nonneg (by omega)]; exact wrap_i64_in ⟨by omega, by omega⟩)) ?_
 refine sx 3 ?_
 refine kp [0, 2] rfl ?_
 refine Run.seq ?_
 refine Run.block ?_
 refine Run.loop (fun m E L => ∃ y : Int, m = (2199 - y).toNat ∧ 1900 ≤ y ∧ y ≤ 2199 ∧ beforeF y ≤ n ∧ E = [(0, I n), (2, .pointer (some ⟨b2, 0, none⟩))] ∧ L = [pt b2 (blk [I y, I 0, I 0] 185), R]) ⟨_, 1900 + n / 366, rfl, hfst.1, hfst.2.1, hfst.2.2, rfl, rfl⟩ ?_
 rintro _ _ _ ⟨y, rfl, hy1, hy2, hyn, rfl, rfl⟩
 refine Run.seq ?_
 refine sr ?_
 refine RunL.cut (t := 22) (v := Bo (decide (y < 2199 ∧ beforeF (y + 1) ≤ n))) (kt (ks := [0, 2]) rfl) ?_ ?_
 refine sx 4 ?_
 first | refine RunL.splitP (t := 15) rfl (fun g2 => ?_) (fun g2 => ?_) | refine RunL.split (t := 15) rfl (fun g2 => ?_) (fun g2 => ?_)
 refine sx 3 ?_
 refine RunL.callG C158 rfl rfl rfl rfl rfl (c_before _ (by omega) (by omega)) .nil ?_
 refine sx 3 ?_
 exact RunL.nil ⟨.cons (by first | rfl | (show some (Value.bool _) = some (Value.bool _); rw [decide_eq_false (show ¬ (y < 2199 ∧ beforeF (y + 1) ≤ n) by omega)]) | (show some (Value.bool _) = some (Value.bool _); simp_all)) (kt (ks := [0, 2]) rfl), rfl⟩
 refine sx 7 ?_
 exact RunL.nil ⟨.cons (by first | rfl | (show some (Value.bool _) = some (Value.bool _); rw [decide_eq_false (show ¬ (y < 2199 ∧ beforeF (y + 1) ≤ n) by omega)]) | (show some (Value.bool _) = some (Value.bool _); simp_all)) (kt (ks := [0, 2]) rfl), rfl⟩
 first | refine Run.if rfl (fun h3 => ?_) (fun h3 => ?_) | refine Run.cond rfl (fun h3 => ?_) (fun h3 => ?_)
 refine Run.skip ?_
 refine Run.block ?_
 refine Run.region ?_
 refine sx 5 ?_
 refine RunL.weak (L' := [pt b2 (blk [I (y + 1), I 0, I 0] 185), R]) (Keep.sub (kt (ks := [0, 2]) rfl)) gv (RunL.nil ?_)
 exact ⟨_, by omega, y + 1, rfl, by omega, by omega, by omega, rfl, rfl⟩
 refine Run.exit ?_
 refine sr ?_
 have hfound := year_found hy1 hy2 hyn hn.2 (by omega)
 have hbw := before_wrap (y := y) (by omega) (by omega)
 refine sx 3 ?_
 refine RunL.call C158 rfl rfl rfl (c_before _ (by omega) (by omega)) .nil ?_
 refine sx 2 ?_
 refine kp [0, 2] rfl ?_
 refine sr ?_
 refine sx 2 ?_
 refine kp [0, 2] rfl ?_
 refine Run.seq ?_
 refine Run.block ?_
 refine Run.loop (fun mm E L => ∃ m k : Int, mm = (12 - m).toNat ∧ 1 ≤ m ∧ m ≤ 12 ∧ 0 ≤ k ∧ k < restM (leapB y) m ∧ n = beforeF y + cumM (leapB y) m + k ∧ E = [(0, I k), (2, .pointer (some ⟨b2, 0, none⟩))] ∧ L = [pt b2 (blk [I y, I m, I 0] 185), R]) ⟨_, 1, _, rfl, by omega, by omega, hfound.1, hfound.2, (by have := @cum_first (leapB y); omega), rfl, rfl⟩ ?_
 rintro _ _ _ ⟨m, k, rfl, hm1, hm2, hk0, hkr, hkn, rfl, rfl⟩
 refine Run.seq ?_
 refine sr ?_
 refine sx 5 ?_
 refine RunL.call C159 rfl rfl rfl (c_Length _ _ _ hR) tks ?_
 refine sx 1 ?_
 refine kp [0, 2, 39] rfl ?_
 first | refine Run.if rfl (fun h4 => ?_) (fun h4 => ?_) | refine Run.cond rfl (fun h4 => ?_) (fun h4 => ?_)
 refine Run.skip ?_
 refine Run.block ?_
 refine sr ?_
 have hnx := rest_next hm1 hm2 hkr (by omega)
 have hlr := @lenM_range (leapB y) m
 have hrl := @rest_le (leapB y) m
 refine sx 5 ?_
 refine RunL.call C159 rfl rfl rfl (c_Length _ _ _ hR) tks ?_
 refine sx 2 ?_
 refine kp [0, 2] rfl ?_
 refine Run.region ?_
 refine sx 5 ?_
 refine RunL.weak (L' := [pt b2 (blk [I y, I (m + 1), I 0] 185), R]) (Keep.sub (kt (ks := [0, 2]) rfl)) gv (RunL.nil ?_)
 exact ⟨_, by omega, m + 1, _, rfl, by omega, by omega, hnx.2.1, hnx.2.2, (by have := cum_step (l := leapB y) hm1 hnx.1; omega), rfl, rfl⟩
 refine Run.exit ?_
 refine sr ?_
 have hrl := @rest_le (leapB y) m
 have hdf := date_found (n := n) ⟨hy1, hy2⟩ ⟨hm1, hm2⟩ hk0 (by omega) hkn
 refine sx 4 ?_
 refine kp [2] rfl ?_
 refine sr ?_
 refine sx 1 ?_
 refine RunL.op rfl rfl (OpJ.storeW T185 rfl rfl rfl rfl (by simp [Value.oneCell', Tg.c, Ln.c, En.c, Ac.c, Cl.c, Ky.c, Qy.c, Sb, Iv]) up ?_)
 refine asg rfl rfl ?_
 refine kp [2, 3] rfl ?_
 refine Run.ret ?_
 exact ret_out (y, m, k + 1) (.cellA T185 rfl pk (by rfl) (.tmp rfl .nil)) (fun _ => hdf) (by rw [if_pos (by simpa using h1)]; rfl) gv
theorem c_fsz (n : Int) (hn : i64 n) : AC Tryz.prog 115 ⟨[I n]⟩ (stars []) (Ret (U (mag n)) []) := by
 refine AC.go Tryz.func115 rfl (Nat.le_of_ble_eq_true rfl) fun β => ?_
 refine sr ?_
 refine asg rfl rfl ?_
 refine kp [0] rfl ?_
 refine Run.seq ?_
 refine sr ?_
 refine sx 2 ?_
 refine kp [0, 4] rfl ?_
 first | refine Run.if rfl (fun h1 => ?_) (fun h1 => ?_) | refine Run.cond rfl (fun h1 => ?_) (fun h1 => ?_)
 refine sr ?_
 refine sx 4 ?_
 refine kp [2] rfl ?_
 refine Run.ret ?_
 exact ret_one (.tmp rfl .nil) (congrArg U (mag_conv_neg hn h1)) gv
 refine Run.skip ?_
 refine sr ?_
 refine sx 3 ?_
 refine kp [2] rfl ?_
 refine Run.ret ?_
 exact ret_one (.tmp rfl .nil) (congrArg U (mag_conv_pos hn h1)) gv
theorem c_fgcd (a b : Int) (ha : 0 ≤ a) (hb : 0 ≤ b) : AC Tryz.prog 116 ⟨[U a, U b]⟩ (stars []) (Ret (U (Int.gcd a b : Int)) []) := by
 refine AC.go Tryz.func116 rfl (Nat.le_of_ble_eq_true rfl) fun β => ?_
 refine sr ?_
 refine asg rfl rfl ?_
 refine kp [0, 1] rfl ?_
 refine Run.seq ?_
 refine Run.block ?_
 refine Run.loop (fun mm E L => ∃ x y : Int, mm = y.toNat ∧ GcI a b x y ∧ E = [(0, U x), (1, U y)] ∧ L = []) ⟨_, a, b, rfl, GcI.start ha hb, rfl, rfl⟩ ?_
 rintro _ _ _ ⟨x, y, rfl, hG, rfl, rfl⟩
 refine Run.seq ?_
 refine sr ?_
 refine sx 2 ?_
 refine kp [0, 1, 6] rfl ?_
 first | refine Run.if rfl (fun h1 => ?_) (fun h1 => ?_) | refine Run.cond rfl (fun h1 => ?_) (fun h1 => ?_)
 refine Run.skip ?_
 refine Run.block ?_
 refine regionD HM ?_
 refine tk 0 rfl rfl rfl (DetJ.move rfl) ?_
 refine tk 1 rfl rfl rfl (DetJ.move rfl) ?_
 refine tk 2 rfl rfl rfl (DetJ.move rfl) ?_
 refine tk 3 rfl rfl rfl (DetJ.rem rfl rfl (by omega)) ?_
 refine RunD.set (congrArg U (show _ = x % y by rw [Int.tmod_eq_emod_of_nonneg hG.a0])) ?_
 refine tk 4 rfl rfl rfl (DetJ.assign rfl) ?_
 refine tk 5 rfl rfl rfl (DetJ.assign rfl) ?_
 refine kd [0, 1] rfl ?_
 have hst := hG.step (by omega)
 exact ⟨_, by have := hst.1.b0; have := hst.2; have := hG.b0; omega, y, x % y, rfl, hst.1, rfl, rfl⟩
 refine Run.exit ?_
 refine sr ?_
 refine sx 2 ?_
 refine kp [4] rfl ?_
 refine Run.ret ?_
 exact ret_one (.tmp rfl .nil) (congrArg U (hG.done (by have := hG.b0; omega))) gv
end
theorem mag_gcd (n d : Int) : Int.gcd (mag n) (mag d) = Int.gcd n d := by
  have e : ∀ n, (mag n).natAbs = n.natAbs := fun n => by unfold mag; split <;> simp
  unfold Int.gcd; rw [e, e]
theorem mag0 (n : Int) : 0 ≤ mag n := by unfold mag; split <;> omega
theorem mag_le {n k : Int} (hk : 0 ≤ k) : mag n ≤ k ↔ -k ≤ n ∧ n ≤ k := by unfold mag; split <;> omega
section
attribute [local irreducible] OpJ RunL Run RunD DetJ pt own star Rd RdS
theorem c_frR (n d : Int) (hn : i64 n) (hd : i64 d) : AC Tryz.prog 83 ⟨[.agg ⟨[I n, I d]⟩]⟩ (stars []) (Ret (Bo (frB n d)) []) := by
 have hmn := @mag_le n 1000000 (by omega); have m0 := mag0 n; have m1 := mag0 d
 refine AC.go Tryz.func83 rfl (Nat.le_of_ble_eq_true rfl) fun β => ?_
 refine sr ?_
 refine RunL.op rfl rfl (OpJ.boxA rfl fun b1 => ?_)
 refine asg rfl rfl ?_
 refine kp [1] rfl ?_
 refine Run.seq ?_
 refine sr ?_
 refine sx 4 ?_
 first | refine RunL.splitP (t := 6) rfl (fun g1 => ?_) (fun g1 => ?_) | refine RunL.split (t := 6) rfl (fun g1 => ?_) (fun g1 => ?_)
 refine sx 10 ?_
 refine kp [1, 16] rfl ?_
 refine Run.true rfl ?_
 refine sr ?_
 refine asg rfl rfl ?_
 refine kp [2] rfl ?_
 refine Run.ret ?_
 exact ret_one (.tmp rfl .nil) (congrArg Bo (by first | (rw [mag_gcd]; unfold frB; rw [Bool.eq_iff_iff]; simp; omega) | (unfold frB; rw [eq_comm, decide_eq_false_iff_not]; omega))) gv
 refine sx 5 ?_
 first | refine RunL.splitP (t := 11) rfl (fun g2 => ?_) (fun g2 => ?_) | refine RunL.split (t := 11) rfl (fun g2 => ?_) (fun g2 => ?_)
 refine sx 5 ?_
 refine kp [1, 16] rfl ?_
 refine Run.true rfl ?_
 refine sr ?_
 refine asg rfl rfl ?_
 refine kp [2] rfl ?_
 refine Run.ret ?_
 exact ret_one (.tmp rfl .nil) (congrArg Bo (by first | (rw [mag_gcd]; unfold frB; rw [Bool.eq_iff_iff]; simp; omega) | (unfold frB; rw [eq_comm, decide_eq_false_iff_not]; omega))) gv
 refine sx 2 ?_
 refine RunL.callG C115 rfl rfl rfl rfl rfl (c_fsz _ (by assumption)) .nil ?_
 refine sx 2 ?_
 refine kp [1, 16] rfl ?_
 first | refine Run.if rfl (fun h3 => ?_) (fun h3 => ?_) | refine Run.cond rfl (fun h3 => ?_) (fun h3 => ?_)
 refine sr ?_
 refine asg rfl rfl ?_
 refine kp [2] rfl ?_
 refine Run.ret ?_
 exact ret_one (.tmp rfl .nil) (congrArg Bo (by first | (rw [mag_gcd]; unfold frB; rw [Bool.eq_iff_iff]; simp; omega) | (unfold frB; rw [eq_comm, decide_eq_false_iff_not]; omega))) gv
 refine Run.skip ?_
 refine Run.seq ?_
 refine regionD HM ?_
 refine tk 0 rfl rfl rfl (DetJ.fieldAddr F105_0 rfl) ?_
 first | refine RunD.takeF 1 rfl rfl kr T3 rfl pk (by rfl) ?_ | refine RunD.takeO 1 rfl rfl kr T3 rfl pk (by assumption) (by rfl) (by exact fun _ => rfl) ?_
 refine tk 3 rfl rfl rfl (DetJ.fieldAddr F105_1 rfl) ?_
 first | refine RunD.takeF 4 rfl rfl kr T3 rfl pk (by rfl) ?_ | refine RunD.takeO 4 rfl rfl kr T3 rfl pk (by assumption) (by rfl) (by exact fun _ => rfl) ?_
 refine RunD.op 2 [true, true, false, false] rfl rfl rfl kr kr (OpJ.callRet C115 rfl rfl (c_fsz _ (by assumption)) .nil ⟨po, ?_⟩)
 refine RunD.op 5 [false, false] rfl rfl rfl kr kr (OpJ.callRet C115 rfl rfl (c_fsz _ (by assumption)) .nil ⟨po, ?_⟩)
 refine RunD.op 6 [] rfl rfl rfl kr kr (OpJ.callRet C116 rfl rfl (c_fgcd _ _ (by omega) (by omega)) .nil ⟨po, ?_⟩)
 refine tk 7 rfl rfl rfl (DetJ.eql rfl rfl) ?_
 refine tk 8 rfl rfl rfl (DetJ.assign rfl) ?_
 refine kd [2] rfl ?_
 refine Run.ret ?_
 exact ret_one (.tmp rfl .nil) (congrArg Bo (by first | (rw [mag_gcd]; unfold frB; rw [Bool.eq_iff_iff]; simp; omega) | (unfold frB; rw [eq_comm, decide_eq_false_iff_not]; omega))) gv
theorem c_known (k : Int) : AC Tryz.prog 81 ⟨[I k]⟩ (stars []) (Ret (Bo (kindB k)) []) := by
 refine AC.go Tryz.func81 rfl (Nat.le_of_ble_eq_true rfl) fun β => ?_
 refine sr ?_
 refine asg rfl rfl ?_
 refine kp [0] rfl ?_
 refine sr ?_
 refine sx 3 ?_
 first | refine RunL.splitP (t := 5) rfl (fun g1 => ?_) (fun g1 => ?_) | refine RunL.split (t := 5) rfl (fun g1 => ?_) (fun g1 => ?_)
 refine sx 4 ?_
 refine kp [2] rfl ?_
 refine Run.ret ?_
 exact ret_one (.tmp rfl .nil) (by first | (simp [tup, kindB,  *]; done) | (exfalso; omega)) gv
 refine sx 4 ?_
 refine kp [2] rfl ?_
 refine Run.ret ?_
 exact ret_one (.tmp rfl .nil) (by first | (simp [tup, kindB,  *]; done) | (exfalso; omega)) gv
theorem c_fxday (n : Int) (R : HP) (hR : Rd R ⟨0, 0, none⟩ lensC) : AC Tryz.prog 82 ⟨[I n]⟩ (stars [R]) (Ret (Bo (inB n 0 109572)) [R]) := by
 refine AC.go Tryz.func82 rfl (Nat.le_of_ble_eq_true rfl) fun β => ?_
 refine sr ?_
 refine asg rfl rfl ?_
 refine kp [0] rfl ?_
 refine sr ?_
 refine mvo rfl rfl ?_
 refine RunL.callX C114 rfl rfl rfl (c_Date _ _ hR) tks fun x hx => ?_
 refine sx 3 ?_
 refine RunL.op rfl rfl (OpJ.alloc Z185 fun b3 => ?_)
 refine RunL.op rfl rfl (OpJ.storeW T185 rfl rfl rfl rfl (by simp [Value.oneCell', Tg.c, Ln.c, En.c, Ac.c, Cl.c, Ky.c, Qy.c, Sb, Iv, Cs.c, Rt.c]) up ?_)
 refine asg rfl rfl ?_
 refine kp [4] rfl ?_
 refine sr ?_
 refine sx 3 ?_
 refine kp [2] rfl ?_
 refine Run.ret ?_
 exact ret_one (.tmp rfl .nil) (congrArg Bo (by cases inB n 0 109572 <;> rfl)) gv
theorem c_fxchk (base : ByteArray) (r : Rt) (R : HP) (hR : Rd R ⟨0, 0, none⟩ lensC) (hz : (r.cur.size : Int) ≤ 9223372036854775807) (hn : i64 r.n) (hd : i64 r.d) : AC Tryz.prog 48 ⟨[St base, .agg ⟨r.c⟩]⟩ (stars [R]) (Ret (I (rtE base r)) [R]) := by
 refine AC.go Tryz.func48 rfl (Nat.le_of_ble_eq_true rfl) fun β => ?_
 refine sr ?_
 refine RunL.op rfl rfl (OpJ.boxA rfl fun b3 => ?_)
 refine asg rfl rfl ?_
 refine kp [0, 3] rfl ?_
 refine Run.seq ?_
 refine Run.block ?_
 refine sr ?_
 refine sx 2 ?_
 refine RunL.call C47 rfl rfl rfl (c_Cur _ (by omega)) .nil ?_
 refine sx 2 ?_
 first | refine RunL.splitP (t := 10) rfl (fun g1 => ?_) (fun g1 => ?_) | refine RunL.split (t := 10) rfl (fun g1 => ?_) (fun g1 => ?_)
 refine sx 6 ?_
 refine kp [3, 5] rfl ?_
 refine Run.true rfl ?_
 refine sr ?_
 refine asg rfl rfl ?_
 refine kp [4] rfl ?_
 refine Run.ret ?_
 exact ret_one (.tmp rfl .nil) (congrArg I (by unfold rtE; simp_all [kindB] <;> omega)) gv
 refine sx 6 ?_
 refine kp [3, 5] rfl ?_
 first | refine Run.if rfl (fun h2 => ?_) (fun h2 => ?_) | refine Run.cond rfl (fun h2 => ?_) (fun h2 => ?_)
 refine sr ?_
 refine asg rfl rfl ?_
 refine kp [4] rfl ?_
 refine Run.ret ?_
 exact ret_one (.tmp rfl .nil) (congrArg I (by unfold rtE; simp_all [kindB] <;> omega)) gv
 refine sr ?_
 refine sx 2 ?_
 refine RunL.call C81 rfl rfl rfl (c_known _) .nil ?_
 refine sx 2 ?_
 refine kp [3, 16] rfl ?_
 first | refine Run.if rfl (fun h3 => ?_) (fun h3 => ?_) | refine Run.cond rfl (fun h3 => ?_) (fun h3 => ?_)
 refine sr ?_
 refine asg rfl rfl ?_
 refine kp [4] rfl ?_
 refine Run.ret ?_
 exact ret_one (.tmp rfl .nil) (congrArg I (by unfold rtE; simp_all [kindB] <;> omega)) gv
 refine sr ?_
 refine sx 2 ?_
 refine RunL.call C82 rfl rfl rfl (c_fxday _ _ hR) tks ?_
 refine sx 2 ?_
 refine kp [3, 21] rfl ?_
 first | refine Run.if rfl (fun h4 => ?_) (fun h4 => ?_) | refine Run.cond rfl (fun h4 => ?_) (fun h4 => ?_)
 refine sr ?_
 refine asg rfl rfl ?_
 refine kp [4] rfl ?_
 refine Run.ret ?_
 exact ret_one (.tmp rfl .nil) (congrArg I (by unfold rtE; simp_all [kindB] <;> omega)) gv
 refine sr ?_
 refine sx 1 ?_
 refine RunL.op rfl rfl (OpJ.loadP T105 rfl pk (by simp [Rt.c]) ?_)
 refine RunL.call C83 rfl rfl rfl (c_frR r.n r.d hn hd) .nil ?_
 refine sx 2 ?_
 first | refine RunL.splitP (t := 31) rfl (fun g5 => ?_) (fun g5 => ?_) | refine RunL.split (t := 31) rfl (fun g5 => ?_) (fun g5 => ?_)
 refine sx 6 ?_
 refine kp [26] rfl ?_
 refine Run.true rfl ?_
 refine sr ?_
 refine asg rfl rfl ?_
 refine kp [4] rfl ?_
 refine Run.ret ?_
 exact ret_one (.tmp rfl .nil) (congrArg I (by unfold rtE; simp_all [kindB] <;> omega)) gv
 refine sx 6 ?_
 refine kp [26] rfl ?_
 first | refine Run.if rfl (fun h6 => ?_) (fun h6 => ?_) | refine Run.cond rfl (fun h6 => ?_) (fun h6 => ?_)
 refine sr ?_
 refine asg rfl rfl ?_
 refine kp [4] rfl ?_
 refine Run.ret ?_
 exact ret_one (.tmp rfl .nil) (congrArg I (by unfold rtE; simp_all [kindB] <;> omega)) gv
 refine Run.skip ?_
 refine sr ?_
 refine asg rfl rfl ?_
 refine kp [4] rfl ?_
 refine Run.ret ?_
 exact ret_one (.tmp rfl .nil) (congrArg I (by unfold rtE; simp_all [kindB] <;> omega)) gv
end
theorem cmp_lt {a b : Int} (h : cmpI a b < 0) : a < b := by unfold cmpI at h; split at h; assumption; split at h <;> omega
theorem cmp_ge {a b : Int} (h : a < b) : cmpI a b = -1 := if_pos h
theorem fl5 (l : List Rt) : (l.flatMap Rt.c).length = l.length * 5 := flat_len (enc := Rt.c) (k := 5) (fun _ => rfl) l
theorem fl5d (l : List Rt) (i : Nat) : ((l.drop i).flatMap Rt.c).length = (l.length - i) * 5 := by rw [fl5, List.length_drop]
theorem fl5t {l : List Rt} {i : Nat} (h : i ≤ l.length) : ((l.take i).flatMap Rt.c).length = i * 5 := by rw [fl5, List.length_take, Nat.min_eq_left h]
section
attribute [local irreducible] OpJ RunL Run RunD DetJ pt own star Rd RdS
theorem c_nan (n : Int) : AC Tryz.prog 160 ⟨[I n]⟩ (stars []) (Ret (Bo false) []) := by
 refine AC.go Tryz.func160 rfl (Nat.le_of_ble_eq_true rfl) fun β => ?_
 refine sr ?_
 refine asg rfl rfl ?_
 refine kp [0] rfl ?_
 refine sr ?_
 refine sx 4 ?_
 refine kp [2] rfl ?_
 refine Run.ret ?_
 exact ret_one (.tmp rfl .nil) (congrArg Bo (by simp)) gv
theorem c_cmpI (a b : Int) : AC Tryz.prog 119 ⟨[I a, I b]⟩ (stars []) (Ret (I (cmpI a b)) []) := by
 refine AC.go Tryz.func119 rfl (Nat.le_of_ble_eq_true rfl) fun β => ?_
 refine sr ?_
 refine asg rfl rfl ?_
 refine kp [0, 1] rfl ?_
 refine sr ?_
 refine mvo rfl rfl ?_
 refine RunL.call C160 rfl rfl rfl (c_nan _) .nil ?_
 refine asg rfl rfl ?_
 refine kp [0, 1, 5] rfl ?_
 refine sr ?_
 refine mvo rfl rfl ?_
 refine RunL.call C160 rfl rfl rfl (c_nan _) .nil ?_
 refine asg rfl rfl ?_
 refine kp [0, 1, 5, 6] rfl ?_
 refine Run.seq ?_
 refine sr ?_
 refine mvo rfl rfl ?_
 refine kp [0, 1, 6, 11] rfl ?_
 refine Run.false rfl ?_
 refine Run.skip ?_
 refine Run.seq ?_
 refine sr ?_
 refine mvo rfl rfl ?_
 refine kp [0, 1, 13] rfl ?_
 refine Run.false rfl ?_
 refine Run.skip ?_
 refine Run.seq ?_
 refine sr ?_
 refine sx 3 ?_
 refine kp [0, 1, 16] rfl ?_
 first | refine Run.if rfl (fun h1 => ?_) (fun h1 => ?_) | refine Run.cond rfl (fun h1 => ?_) (fun h1 => ?_)
 refine sr ?_
 refine asg rfl rfl ?_
 refine kp [4] rfl ?_
 refine Run.ret ?_
 exact ret_one (.tmp rfl .nil) (congrArg I (by unfold cmpI; simp [*])) gv
 refine Run.skip ?_
 refine Run.seq ?_
 refine sr ?_
 refine sx 3 ?_
 refine kp [19] rfl ?_
 first | refine Run.if rfl (fun h2 => ?_) (fun h2 => ?_) | refine Run.cond rfl (fun h2 => ?_) (fun h2 => ?_)
 refine sr ?_
 refine asg rfl rfl ?_
 refine kp [4] rfl ?_
 refine Run.ret ?_
 exact ret_one (.tmp rfl .nil) (congrArg I (by unfold cmpI; simp [*])) gv
 refine Run.skip ?_
 refine sr ?_
 refine asg rfl rfl ?_
 refine kp [4] rfl ?_
 refine Run.ret ?_
 exact ret_one (.tmp rfl .nil) (congrArg I (by unfold cmpI; simp [*])) gv
theorem c_srch1 (r : Rt) (v : Int) : AC Tryz.prog 118 ⟨[.agg ⟨r.c⟩, I v]⟩ (stars []) (Ret (I (cmpI r.day v)) []) := by
 refine AC.go Tryz.func118 rfl (Nat.le_of_ble_eq_true rfl) fun β => ?_
 refine sr ?_
 refine RunL.op rfl rfl (OpJ.boxA rfl fun b2 => ?_)
 refine asg rfl rfl ?_
 refine kp [1, 2] rfl ?_
 refine sr ?_
 refine sx 3 ?_
 refine RunL.call C119 rfl rfl rfl (c_cmpI _ _) .nil ?_
 refine asg rfl rfl ?_
 refine kp [4] rfl ?_
 refine Run.ret ?_
 exact ret_one (.tmp rfl .nil) (rfl) gv
theorem c_bsr (R : HP) (oa : Option Addr) (cap : Nat) (l : List Rt) (v : Int) (hR : RdS R oa (l.flatMap Rt.c)) (hl : l.length ≤ 100000) (hp : l.Pairwise ltD) : AC Tryz.prog 117 ⟨[.slice oa l.length cap, I v, .func (.func 118) #[] #[]]⟩ (stars [R]) (Outs (fun x : Nat × Bool => (x.1 ≤ l.length ∧ (∀ (j : Nat) y, j < x.1 → l[j]? = some y → y.day < v) ∧ (∀ (j : Nat) y, x.1 ≤ j → l[j]? = some y → ¬ y.day < v))) (fun x => .tuple ⟨[I x.1, Bo x.2]⟩) (fun _ => [R])) := by
 refine AC.go Tryz.func117 rfl (Nat.le_of_ble_eq_true rfl) fun β => ?_
 refine sr ?_
 refine sx 2 ?_
 refine kp [0, 1, 2] rfl ?_
 refine sr ?_
 refine sx 3 ?_
 refine kp [0, 1, 2, 8] rfl ?_
 refine sr ?_
 refine sx 3 ?_
 refine kp [0, 1, 2, 8, 9, 10] rfl ?_
 refine Run.seq ?_
 refine Run.block ?_
 refine Run.weak (L' := [R]) (fun _ _ h => h) gv ?_
 refine Run.loop (fun mm E L => ∃ (i j : Nat), mm = j - i ∧ i ≤ j ∧ j ≤ l.length ∧ (∀ (k : Nat) y, k < i → l[k]? = some y → y.day < v) ∧ (∀ (k : Nat) y, j ≤ k → l[k]? = some y → ¬ y.day < v) ∧ E = [(0, .slice oa l.length cap), (1, I v), (2, .func (.func 118) #[] #[]), (8, I l.length), (9, I i), (10, I j)] ∧ L = [R]) ⟨_, 0, l.length, rfl, Nat.zero_le _, Nat.le_refl _, fun k y h => by omega, fun k y h hy => by have := (List.getElem?_eq_some_iff.1 hy).1; omega, rfl, rfl⟩ ?_
 rintro _ _ _ ⟨i, j, rfl, hij, hj, hI0, hI1, rfl, rfl⟩
 refine Run.seq ?_
 refine sr ?_
 refine sx 3 ?_
 refine kp [0, 1, 2, 8, 9, 10, 17] rfl ?_
 first | refine Run.if rfl (fun h1 => ?_) (fun h1 => ?_) | refine Run.cond rfl (fun h1 => ?_) (fun h1 => ?_)
 refine Run.skip ?_
 refine Run.block ?_
 refine sr ?_
 refine sx 4 ?_
 refine RunL.set (congrArg U (show _ = ((i : Int) + j) by rw [wrap_u64]; omega)) ?_
 refine RunL.op rfl rfl (OpJ.shrU (k := 1) rfl rfl (by omega) ?_)
 refine sx 1 ?_
 refine RunL.set (v := I (((i + j) / 2 : Nat) : Int)) (congrArg I (by rw [wrap_i64_in (by omega)]; omega)) ?_
 refine asg rfl rfl ?_
 refine kp [0, 1, 2, 8, 9, 10, 11] rfl ?_
 refine sr ?_
 obtain ⟨y, hmid⟩ := get_ex (xs := l) (i := (i + j) / 2) (by omega)
 refine RunL.rdOpen pk hR (flat_ne (k := 5) (fun _ => rfl) (by decide) hmid) fun b o e hrd => ?_
 subst e
 refine sx 4 ?_
 refine RunL.op rfl rfl (OpJ.loadA T107 rfl pk (hrd.elem (fun _ => rfl) hmid) rfl ?_)
 refine mvo rfl rfl ?_
 refine RunL.call C118 rfl rfl rfl (c_srch1 y v) .nil ?_
 refine sx 1 ?_
 refine kp [0, 1, 2, 8, 9, 10, 11, 31] rfl ?_
 first | refine Run.if rfl (fun h2 => ?_) (fun h2 => ?_) | refine Run.cond rfl (fun h2 => ?_) (fun h2 => ?_)
 refine Run.region ?_
 refine sx 3 ?_
 exact RunL.next (Keep.sub (kt (ks := [0, 1, 2, 8, 9, 10]) rfl)) _ ⟨_, by omega, (i + j) / 2 + 1, j, rfl, by omega, hj, fun k z hk hz => low_of hp hmid (cmp_lt (by omega)) k z (by omega) hz, hI1, rfl, rfl⟩ gv
 refine Run.region ?_
 refine sx 2 ?_
 exact RunL.next (Keep.sub (kt (ks := [0, 1, 2, 8, 9, 10]) rfl)) _ ⟨_, by omega, i, (i + j) / 2, rfl, by omega, by omega, hI0, fun k z hk hz => high_of hp hmid (fun h => by have := cmp_ge h; omega) k z hk hz, rfl, rfl⟩ gv
 refine Run.exit ?_
 refine sr ?_
 obtain rfl : i = j := by omega
 refine sx 4 ?_
 by_cases hlt : i < l.length
 refine RunL.set (congrArg Bo (decide_eq_true (by omega))) ?_
 refine sx 4 ?_
 obtain ⟨y, hy⟩ := get_ex (xs := l) (i := i) (by omega)
 refine RunL.rdOpen pk hR (flat_ne (k := 5) (fun _ => rfl) (by decide) hy) fun b o e hrd => ?_
 subst e
 refine sx 1 ?_
 refine RunL.yes rfl rfl rfl rfl (OpJ.loadA T107 rfl pk (hrd.elem (fun _ => rfl) hy) rfl ?_)
 refine sx 1 ?_
 refine RunL.callG C118 rfl rfl rfl rfl rfl (c_srch1 y v) .nil ?_
 refine sx 4 ?_
 refine kp [6, 7] rfl ?_
 refine Run.ret ?_
 exact ret_out (i, _) (.tmp rfl (.tmp rfl .nil)) ⟨hj, hI0, hI1⟩ rfl gv
 refine RunL.set (congrArg Bo (decide_eq_false (by omega))) ?_
 refine sx 12 ?_
 refine kp [6, 7] rfl ?_
 refine Run.ret ?_
 exact ret_out (i, _) (.tmp rfl (.tmp rfl .nil)) ⟨hj, hI0, hI1⟩ rfl gv
theorem c_search (R : HP) (oa : Option Addr) (cap : Nat) (l : List Rt) (v : Int) (hR : RdS R oa (l.flatMap Rt.c)) (hl : l.length ≤ 100000) (hp : l.Pairwise ltD) : AC Tryz.prog 85 ⟨[.slice oa l.length cap, I v]⟩ (stars [R]) (Outs (fun k : Nat => (k ≤ l.length ∧ (∀ (j : Nat) y, j < k → l[j]? = some y → y.day < v) ∧ (∀ (j : Nat) y, k ≤ j → l[j]? = some y → ¬ y.day < v))) (fun k => I k) (fun _ => [R])) := by
 refine AC.go Tryz.func85 rfl (Nat.le_of_ble_eq_true rfl) fun β => ?_
 refine sr ?_
 refine asg rfl rfl ?_
 refine kp [0, 1] rfl ?_
 refine sr ?_
 refine sx 2 ?_
 refine RunL.callX C117 rfl rfl rfl (c_bsr R oa cap l v hR hl hp) tks fun ⟨k, fo⟩ hk => ?_
 refine sx 5 ?_
 refine kp [5] rfl ?_
 refine sr ?_
 refine sx 2 ?_
 refine kp [4] rfl ?_
 refine Run.ret ?_
 exact ret_out k (.tmp rfl .nil) hk rfl gv
theorem c_fxat (r : Rt) : AC Tryz.prog 84 ⟨[.agg ⟨r.c⟩]⟩ (stars []) (Ret (.agg ⟨[St r.cur, I r.kind, I r.day]⟩) []) := by
 refine AC.go Tryz.func84 rfl (Nat.le_of_ble_eq_true rfl) fun β => ?_
 refine sr ?_
 refine RunL.op rfl rfl (OpJ.boxA rfl fun b1 => ?_)
 refine RunL.op rfl rfl (OpJ.alloc Z152 fun b2 => ?_)
 refine kp [1, 2] rfl ?_
 refine sr ?_
 refine sx 8 ?_
 refine RunL.op rfl rfl (OpJ.storeW T152 rfl rfl rfl rfl (by simp [Value.oneCell', Tg.c, Ln.c, En.c, Ac.c, Cl.c, Ky.c, Qy.c, Sb, Iv, Cs.c, Rt.c]) up ?_)
 refine kp [2] rfl ?_
 refine Run.ret ?_
 exact ret_one (.cellA T152 rfl pk (by rfl) .nil) (rfl) gv
theorem c_ins (oa : Option Addr) (cap : Nat) (l : List Rt) (i : Nat) (hi : i ≤ l.length) (hl : l.length ≤ 100000) (r : Rt) (vb : Nat) : AC Tryz.prog 86 ⟨[.slice oa l.length cap, I i, .slice (some ⟨vb, 0, none⟩) 1 1]⟩ (stars [own 107 5 oa l.length cap (l.flatMap Rt.c), pt vb (blk r.c 107)]) (Outs (fun _ : Option Addr × Nat => True) (fun y => .slice y.1 (l.length + 1) y.2) (fun y => [own 107 5 y.1 (l.length + 1) y.2 ((l.take i ++ r :: l.drop i).flatMap Rt.c)])) := by
 refine AC.go Tryz.func86 rfl (Nat.le_of_ble_eq_true rfl) fun β => ?_
 refine sr ?_
 refine asg rfl rfl ?_
 refine kp [0, 1, 2] rfl ?_
 refine sr ?_
 refine sx 2 ?_
 refine RunL.op rfl rfl (OpJ.sliceLoA S23 rfl rfl (i := i) (by omega) ?_)
 refine kp [0, 1, 2] rfl ?_
 refine sr ?_
 refine sx 3 ?_
 refine kp [0, 1, 2, 7] rfl ?_
 refine Run.seq ?_
 refine sr ?_
 refine sx 2 ?_
 refine RunL.set (congrArg Bo (decide_eq_false (by omega))) ?_
 refine kp [0, 1, 2, 7, 16] rfl ?_
 refine Run.false rfl ?_
 refine Run.skip ?_
 refine sr ?_
 refine sx 3 ?_
 refine kp [0, 1, 2, 7, 8] rfl ?_
 refine Run.seq ?_
 refine sr ?_
 refine sx 3 ?_
 by_cases hil : i = l.length
 refine RunL.set (congrArg Bo (decide_eq_true (by omega))) ?_
 refine kp [0, 1, 2, 7, 8, 22] rfl ?_
 refine Run.true rfl ?_
 refine sr ?_
 refine sx 2 ?_
 refine RunL.op rfl rfl (OpJ.appendAll S23 M107 rfl rfl pk pk Rd.whole.rds (show r.c.length = 1 * 5 from rfl) (by decide) (rt1 r) (by omega) (by omega) fun a25 c25 => ?_)
 refine asg rfl rfl ?_
 refine kp [6] rfl ?_
 refine Run.ret ?_
 subst hil
 rw [← put_last (enc := Rt.c) (k := 5) (fun _ => rfl), show l ++ [r] = l.take l.length ++ r :: l.drop l.length by rw [List.take_length, List.drop_length]]
 exact ret_out (a25, c25) (.tmp rfl .nil) trivial rfl gv
 refine RunL.set (congrArg Bo (decide_eq_false (by omega))) ?_
 refine kp [0, 1, 2, 7, 8, 22] rfl ?_
 refine Run.false rfl ?_
 refine Run.skip ?_
 refine Run.seq ?_
 refine sr ?_
 obtain ⟨y, hy⟩ := get_ex (xs := l) (i := i) (by omega)
 refine RunL.ownAddr pk (flat_ne (k := 5) (fun _ => rfl) (by decide) hy) fun b e hcap => ?_
 subst e
 refine sx 4 ?_
 refine RunL.op rfl rfl (OpJ.capS S23 rfl ?_)
 refine sx 1 ?_
 by_cases hg : cap < l.length + 1
 refine RunL.set (congrArg Bo (decide_eq_true (by omega))) ?_
 refine kp [0, 1, 2, 7, 8, 31] rfl ?_
 refine Run.true rfl ?_
 refine sr ?_
 refine sx 2 ?_
 refine RunL.op rfl rfl (OpJ.sliceHi S23 rfl rfl (i := i) (by omega) ?_)
 refine sx 5 ?_
 refine RunL.set (v := I ((l.length + 1 - i : Nat) : Int)) (congrArg I (by omega)) ?_
 refine RunL.op rfl rfl (OpJ.appendZo S23 M107 (by decide) U3 rfl rfl (by omega) (by omega) (by omega) (by omega) pk (own.rds.lo (enc := Rt.c) (k := 5) (fun _ => rfl) i) (fl5t hi) fun nb nc junk hnc hall => ?_)
 rw [show i + (l.length + 1 - i) = l.length + 1 by omega]
 rw [show i + (l.length + 1 - i) = l.length + 1 by omega] at hnc
 refine asg rfl rfl ?_
 refine kp [0, 1, 2, 7, 9] rfl ?_
 refine sr ?_
 refine sx 2 ?_
 refine RunL.op rfl rfl (OpJ.sliceLoA S23 rfl rfl (i := i) (by omega) ?_)
 refine RunL.set (v := .slice (some ⟨nb, (i) * 5, none⟩) (l.length + 1 - i) (nc - i)) (by rw [cutA_some (by omega)]) ?_
 refine mvo rfl rfl ?_
 refine RunL.op rfl rfl (OpJ.copy (news := r.c) (R := pt vb (blk r.c 107)) S23 rfl rfl up pk Rd.whole (by show 5 = min 1 (l.length + 1 - i) * 5; omega) (rt1 r) (by show i * 5 + 5 ≤ _; omega) ?_)
 refine kp [0, 1, 7, 9] rfl ?_
 refine Run.seq ?_
 refine regionD HM ?_
 have hlen1 : ((l.take i).flatMap Rt.c ++ junk).length = ((l.take i).flatMap Rt.c ++ junk).length := rfl
 have hlen2 : (((l.take i).flatMap Rt.c ++ junk).take (i * 5) ++ r.c ++ ((l.take i).flatMap Rt.c ++ junk).drop (i * 5 + r.c.length)).length = ((l.take i).flatMap Rt.c ++ junk).length := by rw [List.length_append, List.length_append, List.length_take, List.length_drop, show r.c.length = 5 from rfl]; omega
 refine tk 0 rfl rfl rfl (DetJ.move rfl) ?_
 refine tk 1 rfl rfl rfl (DetJ.move rfl) ?_
 refine tk 2 rfl rfl rfl (DetJ.move rfl) ?_
 first | refine tk 3 rfl rfl rfl (DetJ.addI rfl rfl (by omega)) ?_ | refine tk 3 rfl rfl rfl (DetJ.add rfl rfl) ?_
 refine tk 4 rfl rfl rfl (DetJ.sliceLoA S23 rfl rfl (i := i + 1) (by omega)) ?_
 refine RunD.set (v := .slice (some ⟨nb, (i + 1) * 5, none⟩) (l.length + 1 - (i + 1)) (nc - (i + 1))) (by rw [cutA_some (by omega)]) ?_
 refine tk 5 rfl rfl rfl (DetJ.move rfl) ?_
 refine tk 6 rfl rfl rfl (DetJ.move rfl) ?_
 refine tk 7 rfl rfl rfl (DetJ.sliceLoA S23 rfl rfl (i := i) (by omega)) ?_
 refine RunD.set (v := .slice (some ⟨b, (i) * 5, none⟩) (l.length - i) (cap - i)) (by rw [cutA_some (by omega)]) ?_
 refine RunD.op 8 [false, false, false, false, false, false, false, false] rfl rfl rfl kr kr (OpJ.copy (news := (l.drop i).flatMap Rt.c) (R := own 107 5 (some ⟨b, 0, none⟩) l.length cap (l.flatMap Rt.c)) S23 rfl rfl up pk (own.dropRd (fun _ => rfl) (by decide) (by omega)) (by rw [fl5d]; show _ = min (l.length - i) (l.length + 1 - (i + 1)) * 5; congr 1; omega) (flat_one rt1 _) (by rw [fl5d, hlen2]; omega) ⟨po, ?_⟩)
 refine kd [9] rfl ?_
 refine sr ?_
 obtain ⟨jk, hjk⟩ := put_new (enc := Rt.c) (k := 5) (x := r) (fun _ => rfl) hi (rfl : (l.take i).flatMap Rt.c ++ junk = _) (by omega)
 rw [hjk]
 refine RunL.imp (pt nb (blk ((l.take i ++ r :: l.drop i).flatMap Rt.c ++ jk) 107)) (own 107 5 (some ⟨nb, 0, none⟩) (l.length + 1) nc ((l.take i ++ r :: l.drop i).flatMap Rt.c)) up (own.close (by rw [fl5, List.length_append, List.length_cons, List.length_take, List.length_drop, Nat.min_eq_left hi]; congr 1; omega) hnc (by rw [← hjk, List.length_append, List.length_append, List.length_take, List.length_drop, fl5d, hlen2]; omega) jk rfl) ?_
 refine sx 2 ?_
 refine kp [6] rfl ?_
 refine Run.ret ?_
 exact ret_out (some ⟨nb, 0, none⟩, nc) (.tmp rfl .nil) trivial rfl gv
 refine RunL.set (congrArg Bo (decide_eq_false (by omega))) ?_
 refine kp [0, 1, 2, 7, 8, 31] rfl ?_
 refine Run.false rfl ?_
 refine Run.skip ?_
 refine sr ?_
 refine RunL.ownOpen pk (by omega) fun b2 junk e2 hle hn2 hall => ?_
 cases e2
 refine sx 4 ?_
 refine RunL.op rfl rfl (OpJ.sliceHi S23 rfl rfl (i := l.length + 1) (by omega) ?_)
 refine asg rfl rfl ?_
 refine kp [0, 1, 2, 7, 8] rfl ?_
 refine Run.seq ?_
 refine sr ?_
 refine sx 5 ?_
 refine RunL.op rfl rfl (OpJ.sliceLoA S23 rfl rfl (i := i + 1) (by omega) ?_)
 refine RunL.set (v := .slice (some ⟨b, (i + 1) * 5, none⟩) (l.length + 1 - (i + 1)) (cap - (i + 1))) (by rw [cutA_some (by omega)]) ?_
 refine RunL.op rfl rfl (OpJ.overlaps (tr := 4) (ob := 0) (oc := 0) S23 Tryz.func120 (by kernel_rfl) (by kernel_rfl) (by kernel_rfl) (by kernel_rfl) rfl rfl rfl pk pk (by have := hall; intro h; rw [h] at this; simp at this; omega) ?_)
 refine RunL.op rfl rfl (OpJ.not rfl ?_)
 refine RunL.set (v := Bo true) rfl ?_
 refine kp [0, 1, 2, 7, 8, 68] rfl ?_
 refine Run.true rfl ?_
 refine Run.seq ?_
 refine regionD HM ?_
 refine tk 0 rfl rfl rfl (DetJ.move rfl) ?_
 refine tk 1 rfl rfl rfl (DetJ.move rfl) ?_
 refine tk 2 rfl rfl rfl (DetJ.move rfl) ?_
 first | refine tk 3 rfl rfl rfl (DetJ.addI rfl rfl (by omega)) ?_ | refine tk 3 rfl rfl rfl (DetJ.add rfl rfl) ?_
 refine tk 4 rfl rfl rfl (DetJ.sliceLoA S23 rfl rfl (i := i + 1) (by omega)) ?_
 refine RunD.set (v := .slice (some ⟨b, (i + 1) * 5, none⟩) (l.length + 1 - (i + 1)) (cap - (i + 1))) (by rw [cutA_some (by omega)]) ?_
 refine tk 5 rfl rfl rfl (DetJ.move rfl) ?_
 refine tk 6 rfl rfl rfl (DetJ.move rfl) ?_
 refine tk 7 rfl rfl rfl (DetJ.sliceLoA S23 rfl rfl (i := i) (by omega)) ?_
 refine RunD.set (v := .slice (some ⟨b, (i) * 5, none⟩) (l.length + 1 - i) (cap - i)) (by rw [cutA_some (by omega)]) ?_
 refine RunD.op 8 [false, false, false, false, false, false, false, false] rfl rfl rfl kr kr (OpJ.copy (news := (l.drop i).flatMap Rt.c) (R := pt b (blk (l.flatMap Rt.c ++ junk) 107)) S23 rfl rfl up pk (rd_dropJ (enc := Rt.c) (k := 5) (fun _ => rfl) hi) (by rw [fl5d]; show _ = min (l.length + 1 - i) (l.length + 1 - (i + 1)) * 5; congr 1; omega) (flat_one rt1 _) (by rw [fl5d]; omega) ⟨po, ?_⟩)
 refine kd [0, 1, 2] rfl ?_
 refine sr ?_
 refine sx 2 ?_
 refine RunL.op rfl rfl (OpJ.sliceLoA S23 rfl rfl (i := i) (by omega) ?_)
 refine RunL.set (v := .slice (some ⟨b, (i) * 5, none⟩) (l.length + 1 - i) (cap - i)) (by rw [cutA_some (by omega)]) ?_
 refine mvo rfl rfl ?_
 refine RunL.op rfl rfl (OpJ.copy (news := r.c) (R := pt vb (blk r.c 107)) S23 rfl rfl up pk Rd.whole (by show 5 = min 1 (l.length + 1 - i) * 5; omega) (rt1 r) (by show i * 5 + 5 ≤ _; simp only [List.length_append, List.length_take, List.length_drop, fl5d, fl5] at hall ⊢; omega) ?_)
 refine kp [0] rfl ?_
 refine sr ?_
 obtain ⟨jk, hjk⟩ := put_up (enc := Rt.c) (k := 5) (x := r) (fun _ => rfl) hi (rfl : l.flatMap Rt.c ++ junk = _) (by omega)
 have hjl := congrArg List.length hjk
 rw [hjk]
 refine RunL.imp (pt b (blk ((l.take i ++ r :: l.drop i).flatMap Rt.c ++ jk) 107)) (own 107 5 (some ⟨b, 0, none⟩) (l.length + 1) cap ((l.take i ++ r :: l.drop i).flatMap Rt.c)) up (own.close (by rw [fl5, List.length_append, List.length_cons, List.length_take, List.length_drop, Nat.min_eq_left hi]; congr 1; omega) (by omega) (by rw [← hjl]; simp only [List.length_append, List.length_take, List.length_drop, fl5d, show r.c.length = 5 from rfl]; rw [List.length_append] at hall; omega) jk rfl) ?_
 refine sx 2 ?_
 refine kp [6] rfl ?_
 refine Run.ret ?_
 exact ret_out (some ⟨b, 0, none⟩, cap) (.tmp rfl .nil) trivial rfl gv
end
theorem kaSer : KeyAgg Tryz.prog 150 SL.encS := kaS (by kernel_rfl) (.of (by kernel_rfl))
instance mpSer : MPI Tryz.prog 101 150 23 := ⟨by kernel_rfl⟩
instance zvSer : ZVI Tryz.prog 23 (.slice none 0 0) := ⟨by kernel_rfl⟩
instance plEq : PlEq Tryz.prog 152 := .of Tryz.underlying152 (by kernel_rfl) (by kernel_rfl) ⟨by decide, rfl, rfl⟩ ⟨by decide, rfl, rfl⟩ Tryz.underlying150 (by kernel_rfl) (by decide) (by kernel_rfl) (by kernel_rfl) (by kernel_rfl)
section
attribute [local irreducible] OpJ RunL Run RunD DetJ pt own star Rd RdS
theorem c_fins (b bm : Nat) (base : ByteArray) (n : Int) (m : List Sr) (p : List Rt) (r : Rt) (hT : TabI m p) (hp0 : (serL p r.cur r.kind).Pairwise ltD) (hl : p.length ≤ 2000) : AC Tryz.prog 49 ⟨[.pointer (some ⟨b, 0, none⟩), .agg ⟨r.c⟩]⟩ (stars [pt b (blk [St base, I n, .map (some bm)] 103), amap bm srF srG m, big (srH 107) m]) (Outs (fun _ : Option Addr × Nat => True) (fun _ => Bo (newR p r)) (fun x => [pt b (blk [St base, I n, .map (some bm)] 103), amap bm srF srG (insT m p r x), big (srH 107) (insT m p r x)])) := by
 have hql : (srAt m r.cur r.kind).l = serL p r.cur r.kind := hT _ _
 have hsn := @ser_len p r.cur r.kind
 have hqn : (srAt m r.cur r.kind).l.length ≤ 2000 := (by rw [hql]; omega)
 have hp := hp0
 rw [← hql] at hp
 refine AC.go Tryz.func49 rfl (Nat.le_of_ble_eq_true rfl) fun β => ?_
 refine sr ?_
 refine RunL.op rfl rfl (OpJ.boxA rfl fun b3 => ?_)
 refine asg rfl rfl ?_
 refine kp [0, 3] rfl ?_
 refine sr ?_
 refine sx 1 ?_
 refine RunL.call C84 rfl rfl rfl (c_fxat _) .nil ?_
 refine sx 1 ?_
 refine RunL.op rfl rfl (OpJ.alloc Z150 fun b5 => ?_)
 refine RunL.op rfl rfl (OpJ.storeW T150 rfl rfl rfl rfl (by simp [Value.oneCell', Tg.c, Ln.c, En.c, Ac.c, Cl.c, Ky.c, Qy.c, Sb, Iv, Cs.c, Rt.c]) up ?_)
 refine kp [0, 3, 5] rfl ?_
 refine Run.seq ?_
 refine regionD HM ?_
 refine tk 0 rfl rfl rfl (DetJ.move rfl) ?_
 refine tk 1 rfl rfl rfl (DetJ.nilCheck rfl) ?_
 refine tk 2 rfl rfl rfl (DetJ.fieldAddr F103_2 rfl) ?_
 first | refine RunD.takeF 3 rfl rfl kr T101 rfl pk (by rfl) ?_ | refine RunD.takeO 3 rfl rfl kr T101 rfl pk (by assumption) (by rfl) (by exact fun _ => rfl) ?_
 first | refine RunD.takeW 4 rfl rfl kr T150 rfl pk (by rfl) ?_ | refine RunD.takeP 4 rfl rfl kr T150 rfl pk (by simp) ?_ | refine RunD.takeE 4 rfl rfl kr T150 rfl pk (by assumption) (by exact fun _ => rfl) rfl (by decide) ?_
 refine RunD.op 5 [false, false, false, false, true] rfl rfl rfl kr kr (OpJ.lookupSr (c := r.cur) (k := r.kind) kaSer mpSer zvSer rfl rfl pk ⟨po, ?_⟩)
 refine tk 6 rfl rfl rfl (DetJ.assign rfl) ?_
 refine kd [0, 3, 5, 6] rfl ?_
 refine sr ?_
 refine RunL.srOut r.cur r.kind pk ?_
 refine sx 3 ?_
 refine RunL.callX C85 rfl rfl rfl (c_search (own 107 5 (srAt m r.cur r.kind).a (srAt m r.cur r.kind).l.length (srAt m r.cur r.kind).c ((srAt m r.cur r.kind).l.flatMap Rt.c)) _ _ (srAt m r.cur r.kind).l r.day own.rds (by omega) hp) tks fun k hk => ?_
 by_cases hkl : k < (srAt m r.cur r.kind).l.length
 obtain ⟨z, hz⟩ := get_ex (xs := (srAt m r.cur r.kind).l) (i := k) (by omega)
 refine RunL.ownAddr pk (flat_ne (k := 5) (fun _ => rfl) (by decide) hz) fun b2 e2 hc2 => ?_
 rw [e2]
 refine asg rfl rfl ?_
 refine kp [0, 3, 5, 6, 7] rfl ?_
 refine Run.seq ?_
 refine Run.seq ?_
 refine regionD HM ?_
 refine tk 0 rfl rfl rfl (DetJ.move rfl) ?_
 refine tk 1 rfl rfl rfl (DetJ.move rfl) ?_
 refine tk 2 rfl rfl rfl (DetJ.len S23 rfl) ?_
 refine tk 3 rfl rfl rfl (DetJ.lss rfl rfl) ?_
 refine RunD.set (congrArg Bo (decide_eq_true (by omega))) ?_
 refine tk 4 rfl rfl rfl (DetJ.move rfl) ?_
 refine RunD.takeG 5 rfl rfl rfl rfl rfl kr (DetJ.move rfl) .nil ?_
 refine RunD.takeG 6 rfl rfl rfl rfl rfl kr (DetJ.move rfl) .nil ?_
 refine RunD.takeG 7 rfl rfl rfl rfl rfl kr (DetJ.indexAddr S23 rfl rfl (by omega)) .nil ?_
 first | refine RunD.takeGW 8 rfl rfl rfl rfl kr T107 rfl pk (by rfl) ?_ | refine RunD.takeGE 8 rfl rfl rfl rfl kr T107 rfl pk (by assumption) (by exact fun _ => rfl) rfl (by decide) ?_
 first | refine RunD.takeGW 10 rfl rfl rfl rfl kr T107 rfl pk (by rfl) ?_ | refine RunD.takeGE 10 rfl rfl rfl rfl kr T107 rfl pk (by assumption) (by exact fun _ => rfl) rfl (by decide) ?_
 refine RunD.opG 9 [true, false, false, false, false, false, false, false, true, false] rfl rfl rfl rfl rfl kr kr (OpJ.callRet C84 rfl rfl (c_fxat z) .nil ⟨po, ?_⟩)
 refine RunD.opG 11 [false, true] rfl rfl rfl rfl rfl kr kr (OpJ.callRet C84 rfl rfl (c_fxat r) .nil ⟨po, ?_⟩)
 refine RunD.takeG 12 rfl rfl rfl rfl rfl kr (DetJ.eqlP z r plEq rfl rfl) .nil ?_
 refine tk 13 rfl rfl rfl (DetJ.pickT rfl rfl) ?_
 refine kd [0, 3, 5, 6, 7, 34] rfl ?_
 first | refine Run.if rfl (fun h1 => ?_) (fun h1 => ?_) | refine Run.cond rfl (fun h1 => ?_) (fun h1 => ?_)
 refine sr ?_
 refine RunL.imp (own 107 5 (some ⟨b2, 0, none⟩) (srAt m r.cur r.kind).l.length (srAt m r.cur r.kind).c ((srAt m r.cur r.kind).l.flatMap Rt.c)) (own 107 5 (srAt m r.cur r.kind).a (srAt m r.cur r.kind).l.length (srAt m r.cur r.kind).c ((srAt m r.cur r.kind).l.flatMap Rt.c)) up (fun h hh => by rw [e2]; exact hh) ?_
 refine RunL.srBack 107 m r.cur r.kind pk pk ?_
 refine asg rfl rfl ?_
 refine kp [4] rfl ?_
 refine Run.ret ?_
 have hn : newR p r = false := new_no (y := z) (by rw [← hql]; exact List.mem_of_getElem? hz) (by assumption)
 have hi : insT m p r (none, 0) = m := by unfold insT; rw [hn]; rfl
 exact ret_out (none, 0) (.tmp rfl .nil) trivial (congrArg Bo hn.symm) (by rw [hi]; exact gv)
 refine Run.skip ?_
 refine Run.seq ?_
 refine regionD HM ?_
 refine tk 0 rfl rfl rfl (DetJ.move rfl) ?_
 refine tk 1 rfl rfl rfl (DetJ.nilCheck rfl) ?_
 refine tk 2 rfl rfl rfl (DetJ.fieldAddr F103_2 rfl) ?_
 first | refine RunD.takeF 3 rfl rfl kr T101 rfl pk (by rfl) ?_ | refine RunD.takeO 3 rfl rfl kr T101 rfl pk (by assumption) (by rfl) (by exact fun _ => rfl) ?_
 first | refine RunD.takeW 4 rfl rfl kr T150 rfl pk (by rfl) ?_ | refine RunD.takeP 4 rfl rfl kr T150 rfl pk (by simp) ?_ | refine RunD.takeE 4 rfl rfl kr T150 rfl pk (by assumption) (by exact fun _ => rfl) rfl (by decide) ?_
 refine tk 5 rfl rfl rfl (DetJ.move rfl) ?_
 refine tk 6 rfl rfl rfl (DetJ.move rfl) ?_
 first | refine RunD.takeW 7 rfl rfl kr T107 rfl pk (by rfl) ?_ | refine RunD.takeP 7 rfl rfl kr T107 rfl pk (by simp) ?_ | refine RunD.takeE 7 rfl rfl kr T107 rfl pk (by assumption) (by exact fun _ => rfl) rfl (by decide) ?_
 refine RunD.op 8 [false, true, true, true, true, true, true, true] rfl rfl rfl kr kr (OpJ.buildSlice1 S23 rfl rfl rfl (by decide) (by decide) Z107 rfl fun b43 => ⟨po, ?_⟩)
 refine RunD.op 9 [false, false, true, true, true, true, true] rfl rfl rfl kr kr (OpJ.callOuts C86 rfl rfl (c_ins _ _ (srAt m r.cur r.kind).l k hk.1 (by omega) r b43) tks fun ⟨ia, ic⟩ _ => ⟨po, ?_⟩)
 rw [show (srAt m r.cur r.kind).l.length + 1 = (insR r (srAt m r.cur r.kind).l).length from insR_len.symm, ← insR_at (r := r) hk.1 hk.2.1 (fun y hy => hk.2.2 k y (Nat.le_refl _) hy)]
 refine RunD.op 10 [false, false, false, false, false] rfl rfl rfl kr kr (OpJ.mapUpdateA (⟨r.cur, r.kind, ia, ic, insR r (srAt m r.cur r.kind).l⟩ : Sr) kaSer mpSer rfl rfl rfl up ⟨po, ?_⟩)
 refine kd [] rfl ?_
 refine sr ?_
 refine RunL.srIn 107 m ⟨r.cur, r.kind, ia, ic, insR r (srAt m r.cur r.kind).l⟩ pk pk ?_
 refine asg rfl rfl ?_
 refine kp [4] rfl ?_
 refine Run.ret ?_
 have hn : newR p r = true := new_yes (k := k) (by rw [← hql]; exact hk.2.1) hp0 (fun y hy => by rw [← hql, hz] at hy; cases hy; exact ⟨hk.2.2 k z (Nat.le_refl _) hz, by assumption⟩)
 have hi : insT m p r (ia, ic) = kSet srK ⟨r.cur, r.kind, ia, ic, insR r (srAt m r.cur r.kind).l⟩ m := by unfold insT; rw [if_pos hn]
 exact ret_out (ia, ic) (.tmp rfl .nil) trivial (congrArg Bo hn.symm) (by rw [hi]; exact gv)
 skip
 refine asg rfl rfl ?_
 refine kp [0, 3, 5, 6, 7] rfl ?_
 refine Run.seq ?_
 refine Run.seq ?_
 refine regionD HM ?_
 refine tk 0 rfl rfl rfl (DetJ.move rfl) ?_
 refine tk 1 rfl rfl rfl (DetJ.move rfl) ?_
 refine tk 2 rfl rfl rfl (DetJ.len S23 rfl) ?_
 refine tk 3 rfl rfl rfl (DetJ.lss rfl rfl) ?_
 refine RunD.set (congrArg Bo (decide_eq_false (by omega))) ?_
 refine tk 4 rfl rfl rfl (DetJ.move rfl) ?_
 refine RunD.takeN 5 rfl rfl rfl rfl rfl kr ?_
 refine RunD.takeN 6 rfl rfl rfl rfl rfl kr ?_
 refine RunD.takeN 7 rfl rfl rfl rfl rfl kr ?_
 refine RunD.takeN 8 rfl rfl rfl rfl rfl kr ?_
 refine RunD.takeN 9 rfl rfl rfl rfl rfl kr ?_
 refine RunD.takeN 10 rfl rfl rfl rfl rfl kr ?_
 refine RunD.takeN 11 rfl rfl rfl rfl rfl kr ?_
 refine RunD.takeN 12 rfl rfl rfl rfl rfl kr ?_
 refine tk 13 rfl rfl rfl (DetJ.pickF rfl rfl) ?_
 refine kd [0, 3, 5, 6, 7, 34] rfl ?_
 refine Run.false rfl ?_
 refine Run.skip ?_
 refine Run.seq ?_
 refine regionD HM ?_
 refine tk 0 rfl rfl rfl (DetJ.move rfl) ?_
 refine tk 1 rfl rfl rfl (DetJ.nilCheck rfl) ?_
 refine tk 2 rfl rfl rfl (DetJ.fieldAddr F103_2 rfl) ?_
 first | refine RunD.takeF 3 rfl rfl kr T101 rfl pk (by rfl) ?_ | refine RunD.takeO 3 rfl rfl kr T101 rfl pk (by assumption) (by rfl) (by exact fun _ => rfl) ?_
 first | refine RunD.takeW 4 rfl rfl kr T150 rfl pk (by rfl) ?_ | refine RunD.takeP 4 rfl rfl kr T150 rfl pk (by simp) ?_ | refine RunD.takeE 4 rfl rfl kr T150 rfl pk (by assumption) (by exact fun _ => rfl) rfl (by decide) ?_
 refine tk 5 rfl rfl rfl (DetJ.move rfl) ?_
 refine tk 6 rfl rfl rfl (DetJ.move rfl) ?_
 first | refine RunD.takeW 7 rfl rfl kr T107 rfl pk (by rfl) ?_ | refine RunD.takeP 7 rfl rfl kr T107 rfl pk (by simp) ?_ | refine RunD.takeE 7 rfl rfl kr T107 rfl pk (by assumption) (by exact fun _ => rfl) rfl (by decide) ?_
 refine RunD.op 8 [false, true, true, true, true, true, true, true] rfl rfl rfl kr kr (OpJ.buildSlice1 S23 rfl rfl rfl (by decide) (by decide) Z107 rfl fun b43 => ⟨po, ?_⟩)
 refine RunD.op 9 [false, false, true, true, true, true, true] rfl rfl rfl kr kr (OpJ.callOuts C86 rfl rfl (c_ins _ _ (srAt m r.cur r.kind).l k hk.1 (by omega) r b43) tks fun ⟨ia, ic⟩ _ => ⟨po, ?_⟩)
 rw [show (srAt m r.cur r.kind).l.length + 1 = (insR r (srAt m r.cur r.kind).l).length from insR_len.symm, ← insR_at (r := r) hk.1 hk.2.1 (fun y hy => hk.2.2 k y (Nat.le_refl _) hy)]
 refine RunD.op 10 [false, false, false, false, false] rfl rfl rfl kr kr (OpJ.mapUpdateA (⟨r.cur, r.kind, ia, ic, insR r (srAt m r.cur r.kind).l⟩ : Sr) kaSer mpSer rfl rfl rfl up ⟨po, ?_⟩)
 refine kd [] rfl ?_
 refine sr ?_
 refine RunL.srIn 107 m ⟨r.cur, r.kind, ia, ic, insR r (srAt m r.cur r.kind).l⟩ pk pk ?_
 refine asg rfl rfl ?_
 refine kp [4] rfl ?_
 refine Run.ret ?_
 have hn : newR p r = true := new_yes (k := k) (by rw [← hql]; exact hk.2.1) hp0 (fun y hy => by have := (List.getElem?_eq_some_iff.1 hy).1; rw [← hql] at this; omega)
 have hi : insT m p r (ia, ic) = kSet srK ⟨r.cur, r.kind, ia, ic, insR r (srAt m r.cur r.kind).l⟩ m := by unfold insT; rw [if_pos hn]
 exact ret_out (ia, ic) (.tmp rfl .nil) trivial (congrArg Bo hn.symm) (by rw [hi]; exact gv)
end
end Go.Proofs.YtncidoakeflboaaGreatDoor
