/- Laws of the walks and of the models, part 3 (merged by program). -/
import Derived.Test.YtglaahpagjjmoaaGreatDoorD2
import Derived.Test.YtglaahpagjjmoaaGreatDoorProg
set_option linter.unusedVariables false
set_option linter.unusedSimpArgs false
set_option maxRecDepth 20000
set_option maxHeartbeats 4000000
namespace Go.Proofs.YtglaahpagjjmoaaGreatDoor
open Go Go.SL Go.Proofs
theorem HM : Tryz.prog.follows .mixedOrders = true := by kernel_rfl
instance A200 : AI Tryz.prog 200 3 12 := .of (by kernel_rfl) (by kernel_rfl)
instance A204 : AI Tryz.prog 204 9 5 := .of (by kernel_rfl) (by kernel_rfl)
instance B110 : BI Tryz.prog 110 [.map none, .map none, .slice none 0 0] [(0, 1), (1, 1), (2, 1)] := .of (by kernel_rfl) (by kernel_rfl)
instance B141 : BI Tryz.prog 141 [.int .i64 0, .int .i64 0] [(0, 1), (1, 1)] := .of (by kernel_rfl) (by kernel_rfl)
instance B151 : BI Tryz.prog 151 [.string ⟨#[]⟩, .string ⟨#[]⟩] [(0, 1), (1, 1)] := .of (by kernel_rfl) (by kernel_rfl)
instance B157 : BI Tryz.prog 157 [.int .i64 0, .int .i64 0, .int .i64 0] [(0, 1), (1, 1), (2, 1)] := .of (by kernel_rfl) (by kernel_rfl)
instance B161 : BAI Tryz.prog 161 [.int .i64 0, .int .i64 0, .int .i64 0] := .of (by kernel_rfl) (by kernel_rfl)
instance B171 : BI Tryz.prog 171 [.slice none 0 0, .slice none 0 0] [(0, 1), (1, 1)] := .of (by kernel_rfl) (by kernel_rfl)
instance B186 : BI Tryz.prog 186 [.bool false, .int .i64 0] [(0, 1), (1, 1)] := .of (by kernel_rfl) (by kernel_rfl)
instance B204 : BAI Tryz.prog 204 [.string ⟨#[]⟩, .string ⟨#[]⟩, .string ⟨#[]⟩, .string ⟨#[]⟩, .string ⟨#[]⟩] := .of (by kernel_rfl) (by kernel_rfl)
instance B42 : BI Tryz.prog 42 [.int .i64 0, .string ⟨#[]⟩, .int .i64 0, .int .i64 0, .int .i64 0, .string ⟨#[]⟩, .string ⟨#[]⟩, .int .i64 0, .slice none 0 0] [(0, 1), (1, 1), (2, 1), (3, 1), (4, 1), (5, 1), (6, 1), (7, 1), (8, 1)] := .of (by kernel_rfl) (by kernel_rfl)
instance B51 : BI Tryz.prog 51 [.int .i64 0, .int .i64 0] [(0, 1), (1, 1)] := .of (by kernel_rfl) (by kernel_rfl)
instance B54 : BI Tryz.prog 54 [.string ⟨#[]⟩, .int .i64 0, .int .i64 0, .int .i64 0] [(0, 1), (1, 1), (2, 1), (3, 1)] := .of (by kernel_rfl) (by kernel_rfl)
instance B61 : BI Tryz.prog 61 [.string ⟨#[]⟩, .string ⟨#[]⟩, .string ⟨#[]⟩, .string ⟨#[]⟩, .string ⟨#[]⟩] [(0, 1), (1, 1), (2, 1), (3, 1), (4, 1)] := .of (by kernel_rfl) (by kernel_rfl)
instance B63 : BI Tryz.prog 63 [.string ⟨#[]⟩, .string ⟨#[]⟩, .string ⟨#[]⟩, .string ⟨#[]⟩, .string ⟨#[]⟩, .int .i64 0, .int .i64 0] [(0, 5), (5, 1), (6, 1)] := .of (by kernel_rfl) (by kernel_rfl)
instance B73 : BI Tryz.prog 73 [.string ⟨#[]⟩, .string ⟨#[]⟩, .int .i64 0, .int .i64 0, .string ⟨#[]⟩, .string ⟨#[]⟩, .slice none 0 0] [(0, 1), (1, 1), (2, 1), (3, 1), (4, 1), (5, 1), (6, 1)] := .of (by kernel_rfl) (by kernel_rfl)
instance C100 : CI Tryz.prog 100 := .of (by kernel_rfl)
instance C101 : CI Tryz.prog 101 := .of (by kernel_rfl)
instance C102 : CI Tryz.prog 102 := .of (by kernel_rfl)
instance C110 : CI Tryz.prog 110 := .of (by kernel_rfl)
instance C111 : CI Tryz.prog 111 := .of (by kernel_rfl)
instance C112 : CI Tryz.prog 112 := .of (by kernel_rfl)
instance C113 : CI Tryz.prog 113 := .of (by kernel_rfl)
instance C114 : CI Tryz.prog 114 := .of (by kernel_rfl)
instance C115 : CI Tryz.prog 115 := .of (by kernel_rfl)
instance C116 : CI Tryz.prog 116 := .of (by kernel_rfl)
instance C124 : CI Tryz.prog 124 := .of (by kernel_rfl)
instance C125 : CI Tryz.prog 125 := .of (by kernel_rfl)
instance C128 : CI Tryz.prog 128 := .of (by kernel_rfl)
instance C129 : CI Tryz.prog 129 := .of (by kernel_rfl)
instance C130 : CI Tryz.prog 130 := .of (by kernel_rfl)
instance C131 : CI Tryz.prog 131 := .of (by kernel_rfl)
instance C132 : CI Tryz.prog 132 := .of (by kernel_rfl)
instance C142 : CI Tryz.prog 142 := .of (by kernel_rfl)
instance C143 : CI Tryz.prog 143 := .of (by kernel_rfl)
instance C144 : CI Tryz.prog 144 := .of (by kernel_rfl)
instance C145 : CI Tryz.prog 145 := .of (by kernel_rfl)
instance C146 : CI Tryz.prog 146 := .of (by kernel_rfl)
instance C147 : CI Tryz.prog 147 := .of (by kernel_rfl)
instance C148 : CI Tryz.prog 148 := .of (by kernel_rfl)
instance C149 : CI Tryz.prog 149 := .of (by kernel_rfl)
instance C159 : CI Tryz.prog 159 := .of (by kernel_rfl)
instance C161 : CI Tryz.prog 161 := .of (by kernel_rfl)
instance C163 : CI Tryz.prog 163 := .of (by kernel_rfl)
instance C164 : CI Tryz.prog 164 := .of (by kernel_rfl)
instance C169 : CI Tryz.prog 169 := .of (by kernel_rfl)
instance C170 : CI Tryz.prog 170 := .of (by kernel_rfl)
instance C185 : CI Tryz.prog 185 := .of (by kernel_rfl)
instance C186 : CI Tryz.prog 186 := .of (by kernel_rfl)
instance C19 : CI Tryz.prog 19 := .of (by kernel_rfl)
instance C198 : CI Tryz.prog 198 := .of (by kernel_rfl)
instance C20 : CI Tryz.prog 20 := .of (by kernel_rfl)
instance C202 : CI Tryz.prog 202 := .of (by kernel_rfl)
instance C21 : CI Tryz.prog 21 := .of (by kernel_rfl)
instance C26 : CI Tryz.prog 26 := .of (by kernel_rfl)
instance C34 : CI Tryz.prog 34 := .of (by kernel_rfl)
instance C38 : CI Tryz.prog 38 := .of (by kernel_rfl)
instance C39 : CI Tryz.prog 39 := .of (by kernel_rfl)
instance C45 : CI Tryz.prog 45 := .of (by kernel_rfl)
instance C46 : CI Tryz.prog 46 := .of (by kernel_rfl)
instance C47 : CI Tryz.prog 47 := .of (by kernel_rfl)
instance C48 : CI Tryz.prog 48 := .of (by kernel_rfl)
instance C49 : CI Tryz.prog 49 := .of (by kernel_rfl)
instance C50 : CI Tryz.prog 50 := .of (by kernel_rfl)
instance C51 : CI Tryz.prog 51 := .of (by kernel_rfl)
instance C52 : CI Tryz.prog 52 := .of (by kernel_rfl)
instance C53 : CI Tryz.prog 53 := .of (by kernel_rfl)
instance C54 : CI Tryz.prog 54 := .of (by kernel_rfl)
instance C56 : CI Tryz.prog 56 := .of (by kernel_rfl)
instance C57 : CI Tryz.prog 57 := .of (by kernel_rfl)
instance C58 : CI Tryz.prog 58 := .of (by kernel_rfl)
instance C66 : CI Tryz.prog 66 := .of (by kernel_rfl)
instance C67 : CI Tryz.prog 67 := .of (by kernel_rfl)
instance C68 : CI Tryz.prog 68 := .of (by kernel_rfl)
instance C69 : CI Tryz.prog 69 := .of (by kernel_rfl)
instance C77 : CI Tryz.prog 77 := .of (by kernel_rfl)
instance C78 : CI Tryz.prog 78 := .of (by kernel_rfl)
instance C79 : CI Tryz.prog 79 := .of (by kernel_rfl)
instance C80 : CI Tryz.prog 80 := .of (by kernel_rfl)
instance C81 : CI Tryz.prog 81 := .of (by kernel_rfl)
instance C82 : CI Tryz.prog 82 := .of (by kernel_rfl)
instance C89 : CI Tryz.prog 89 := .of (by kernel_rfl)
instance C90 : CI Tryz.prog 90 := .of (by kernel_rfl)
instance C91 : CI Tryz.prog 91 := .of (by kernel_rfl)
instance C92 : CI Tryz.prog 92 := .of (by kernel_rfl)
instance C93 : CI Tryz.prog 93 := .of (by kernel_rfl)
instance C94 : CI Tryz.prog 94 := .of (by kernel_rfl)
instance C95 : CI Tryz.prog 95 := .of (by kernel_rfl)
instance C96 : CI Tryz.prog 96 := .of (by kernel_rfl)
instance C97 : CI Tryz.prog 97 := .of (by kernel_rfl)
instance C98 : CI Tryz.prog 98 := .of (by kernel_rfl)
instance C99 : CI Tryz.prog 99 := .of (by kernel_rfl)
instance EI141 : EI Tryz.prog 141 [.int, .int] := .of (by kernel_rfl)
instance EI161 : EI Tryz.prog 161 [.int, .int, .int] := .of (by kernel_rfl)
instance F110_0 : FI Tryz.prog 110 0 107 0 := .of (by kernel_rfl)
instance F110_1 : FI Tryz.prog 110 1 108 1 := .of (by kernel_rfl)
instance F110_2 : FI Tryz.prog 110 2 55 2 := .of (by kernel_rfl)
instance F141_0 : FI Tryz.prog 141 0 3 0 := .of (by kernel_rfl)
instance F141_1 : FI Tryz.prog 141 1 3 1 := .of (by kernel_rfl)
instance F151_0 : FI Tryz.prog 151 0 9 0 := .of (by kernel_rfl)
instance F151_1 : FI Tryz.prog 151 1 9 1 := .of (by kernel_rfl)
instance F157_0 : FI Tryz.prog 157 0 3 0 := .of (by kernel_rfl)
instance F157_1 : FI Tryz.prog 157 1 3 1 := .of (by kernel_rfl)
instance F157_2 : FI Tryz.prog 157 2 3 2 := .of (by kernel_rfl)
instance F171_0 : FI Tryz.prog 171 0 112 0 := .of (by kernel_rfl)
instance F171_1 : FI Tryz.prog 171 1 112 1 := .of (by kernel_rfl)
instance F186_0 : FI Tryz.prog 186 0 4 0 := .of (by kernel_rfl)
instance F186_1 : FI Tryz.prog 186 1 33 1 := .of (by kernel_rfl)
instance F24_0 : FI Tryz.prog 24 0 3 0 := .of (by kernel_rfl)
instance F42_0 : FI Tryz.prog 42 0 3 0 := .of (by kernel_rfl)
instance F42_1 : FI Tryz.prog 42 1 9 1 := .of (by kernel_rfl)
instance F42_2 : FI Tryz.prog 42 2 3 2 := .of (by kernel_rfl)
instance F42_3 : FI Tryz.prog 42 3 3 3 := .of (by kernel_rfl)
instance F42_4 : FI Tryz.prog 42 4 3 4 := .of (by kernel_rfl)
instance F42_5 : FI Tryz.prog 42 5 9 5 := .of (by kernel_rfl)
instance F42_6 : FI Tryz.prog 42 6 9 6 := .of (by kernel_rfl)
instance F42_7 : FI Tryz.prog 42 7 3 7 := .of (by kernel_rfl)
instance F42_8 : FI Tryz.prog 42 8 40 8 := .of (by kernel_rfl)
instance F51_0 : FI Tryz.prog 51 0 3 0 := .of (by kernel_rfl)
instance F51_1 : FI Tryz.prog 51 1 3 1 := .of (by kernel_rfl)
instance F54_0 : FI Tryz.prog 54 0 9 0 := .of (by kernel_rfl)
instance F54_1 : FI Tryz.prog 54 1 3 1 := .of (by kernel_rfl)
instance F54_2 : FI Tryz.prog 54 2 3 2 := .of (by kernel_rfl)
instance F54_3 : FI Tryz.prog 54 3 3 3 := .of (by kernel_rfl)
instance F57_0 : FI Tryz.prog 57 0 9 0 := .of (by kernel_rfl)
instance F57_1 : FI Tryz.prog 57 1 9 1 := .of (by kernel_rfl)
instance F57_2 : FI Tryz.prog 57 2 3 2 := .of (by kernel_rfl)
instance F57_3 : FI Tryz.prog 57 3 4 3 := .of (by kernel_rfl)
instance F57_4 : FI Tryz.prog 57 4 9 4 := .of (by kernel_rfl)
instance F57_7 : FI Tryz.prog 57 7 55 7 := .of (by kernel_rfl)
instance F61_0 : FI Tryz.prog 61 0 9 0 := .of (by kernel_rfl)
instance F61_1 : FI Tryz.prog 61 1 9 1 := .of (by kernel_rfl)
instance F61_2 : FI Tryz.prog 61 2 9 2 := .of (by kernel_rfl)
instance F61_3 : FI Tryz.prog 61 3 9 3 := .of (by kernel_rfl)
instance F61_4 : FI Tryz.prog 61 4 9 4 := .of (by kernel_rfl)
instance F63_0 : FI Tryz.prog 63 0 61 0 := .of (by kernel_rfl)
instance F63_1 : FI Tryz.prog 63 1 3 5 := .of (by kernel_rfl)
instance F63_2 : FI Tryz.prog 63 2 3 6 := .of (by kernel_rfl)
instance F73_0 : FI Tryz.prog 73 0 9 0 := .of (by kernel_rfl)
instance F73_1 : FI Tryz.prog 73 1 9 1 := .of (by kernel_rfl)
instance F73_2 : FI Tryz.prog 73 2 3 2 := .of (by kernel_rfl)
instance F73_3 : FI Tryz.prog 73 3 3 3 := .of (by kernel_rfl)
instance F73_4 : FI Tryz.prog 73 4 9 4 := .of (by kernel_rfl)
instance F73_5 : FI Tryz.prog 73 5 9 5 := .of (by kernel_rfl)
instance F73_6 : FI Tryz.prog 73 6 71 6 := .of (by kernel_rfl)
instance M151 : MI Tryz.prog 151 2 32 [.string ⟨#[]⟩, .string ⟨#[]⟩] := .of (by kernel_rfl) rfl
instance M3 : MI Tryz.prog 3 1 8 [.int .i64 0] := .of (by kernel_rfl) rfl
instance M63 : MI Tryz.prog 63 7 96 [.string ⟨#[]⟩, .string ⟨#[]⟩, .string ⟨#[]⟩, .string ⟨#[]⟩, .string ⟨#[]⟩, .int .i64 0, .int .i64 0] := .of (by kernel_rfl) rfl
instance M73 : MI Tryz.prog 73 7 104 [.string ⟨#[]⟩, .string ⟨#[]⟩, .int .i64 0, .int .i64 0, .string ⟨#[]⟩, .string ⟨#[]⟩, .slice none 0 0] := .of (by kernel_rfl) rfl
instance M9 : MI Tryz.prog 9 1 16 [.string ⟨#[]⟩] := .of (by kernel_rfl) rfl
instance S112 : SI Tryz.prog 112 3 1 := .of (by kernel_rfl) (by kernel_rfl)
instance S212 : SI Tryz.prog 212 186 2 := .of (by kernel_rfl) (by kernel_rfl)
instance S22 : SI Tryz.prog 22 57 8 := .of (by kernel_rfl) (by kernel_rfl)
instance S25 : SI Tryz.prog 25 42 9 := .of (by kernel_rfl) (by kernel_rfl)
instance S32 : SI Tryz.prog 32 63 7 := .of (by kernel_rfl) (by kernel_rfl)
instance S40 : SI Tryz.prog 40 73 7 := .of (by kernel_rfl) (by kernel_rfl)
instance S55 : SI Tryz.prog 55 9 1 := .of (by kernel_rfl) (by kernel_rfl)
instance S71 : SI Tryz.prog 71 151 2 := .of (by kernel_rfl) (by kernel_rfl)
instance T107 : TI Tryz.prog 107 false 1 := .of (by kernel_rfl)
instance T108 : TI Tryz.prog 108 false 1 := .of (by kernel_rfl)
instance T112 : TI Tryz.prog 112 false 1 := .of (by kernel_rfl)
instance T141 : TI Tryz.prog 141 true 2 := .of (by kernel_rfl)
instance T151 : TI Tryz.prog 151 true 2 := .of (by kernel_rfl)
instance T157 : TI Tryz.prog 157 true 3 := .of (by kernel_rfl)
instance T166 : TI Tryz.prog 166 false 1 := .of (by kernel_rfl)
instance T167 : TI Tryz.prog 167 false 1 := .of (by kernel_rfl)
instance T186 : TI Tryz.prog 186 true 2 := .of (by kernel_rfl)
instance T204 : TI Tryz.prog 204 true 5 := .of (by kernel_rfl)
instance T24 : TI Tryz.prog 24 true 1 := .of (by kernel_rfl)
instance T28 : TI Tryz.prog 28 false 1 := .of (by kernel_rfl)
instance T3 : TI Tryz.prog 3 false 1 := .of (by kernel_rfl)
instance T32 : TI Tryz.prog 32 false 1 := .of (by kernel_rfl)
instance T33 : TI Tryz.prog 33 false 1 := .of (by kernel_rfl)
instance T4 : TI Tryz.prog 4 false 1 := .of (by kernel_rfl)
instance T40 : TI Tryz.prog 40 false 1 := .of (by kernel_rfl)
instance T42 : TI Tryz.prog 42 true 9 := .of (by kernel_rfl)
instance T51 : TI Tryz.prog 51 true 2 := .of (by kernel_rfl)
instance T54 : TI Tryz.prog 54 true 4 := .of (by kernel_rfl)
instance T55 : TI Tryz.prog 55 false 1 := .of (by kernel_rfl)
instance T57 : TI Tryz.prog 57 true 8 := .of (by kernel_rfl)
instance T61 : TI Tryz.prog 61 true 5 := .of (by kernel_rfl)
instance T63 : TI Tryz.prog 63 true 7 := .of (by kernel_rfl)
instance T71 : TI Tryz.prog 71 false 1 := .of (by kernel_rfl)
instance T73 : TI Tryz.prog 73 true 7 := .of (by kernel_rfl)
instance T9 : TI Tryz.prog 9 false 1 := .of (by kernel_rfl)
theorem U119 : Tryz.prog.underlying 119 = some (.pointer (Tryz.prog.pointee 119)) := by kernel_rfl
instance UP119 : PI Tryz.prog 119 := ⟨U119⟩
theorem U207 : Tryz.prog.underlying 207 = some (.int .u64) := by kernel_rfl
instance UV207 : UI Tryz.prog 207 (.int .u64) := ⟨U207⟩
theorem U210 : Tryz.prog.underlying 210 = some (.int .u64) := by kernel_rfl
instance UV210 : UI Tryz.prog 210 (.int .u64) := ⟨U210⟩
theorem U28 : Tryz.prog.underlying 28 = some (.pointer (Tryz.prog.pointee 28)) := by kernel_rfl
instance UP28 : PI Tryz.prog 28 := ⟨U28⟩
theorem U3 : Tryz.prog.underlying 3 = some (.int .i64) := by kernel_rfl
instance UV3 : UI Tryz.prog 3 (.int .i64) := ⟨U3⟩
theorem U9 : Tryz.prog.underlying 9 = some .string := by kernel_rfl
instance UV9 : UI Tryz.prog 9 .string := ⟨U9⟩
theorem U207s : (Tryz.prog.underlying 207).isSome = true := by kernel_rfl
instance UW207 : SoI Tryz.prog 207 := ⟨U207s⟩
theorem U210s : (Tryz.prog.underlying 210).isSome = true := by kernel_rfl
instance UW210 : SoI Tryz.prog 210 := ⟨U210s⟩
theorem U3s : (Tryz.prog.underlying 3).isSome = true := by kernel_rfl
instance UW3 : SoI Tryz.prog 3 := ⟨U3s⟩
instance Z141 : ZI Tryz.prog 141 [.int .i64 0, .int .i64 0] := .of (by kernel_rfl)
instance Z151 : ZI Tryz.prog 151 [.string ⟨#[]⟩, .string ⟨#[]⟩] := .of (by kernel_rfl)
instance Z157 : ZI Tryz.prog 157 [.int .i64 0, .int .i64 0, .int .i64 0] := .of (by kernel_rfl)
instance Z186 : ZI Tryz.prog 186 [.bool false, .int .i64 0] := .of (by kernel_rfl)
instance Z204 : ZI Tryz.prog 204 [.string ⟨#[]⟩, .string ⟨#[]⟩, .string ⟨#[]⟩, .string ⟨#[]⟩, .string ⟨#[]⟩] := .of (by kernel_rfl)
instance Z3 : ZI Tryz.prog 3 [.int .i64 0] := .of (by kernel_rfl)
instance Z32 : ZI Tryz.prog 32 [.slice none 0 0] := .of (by kernel_rfl)
instance Z40 : ZI Tryz.prog 40 [.slice none 0 0] := .of (by kernel_rfl)
instance Z42 : ZI Tryz.prog 42 [.int .i64 0, .string ⟨#[]⟩, .int .i64 0, .int .i64 0, .int .i64 0, .string ⟨#[]⟩, .string ⟨#[]⟩, .int .i64 0, .slice none 0 0] := .of (by kernel_rfl)
instance Z57 : ZI Tryz.prog 57 [.string ⟨#[]⟩, .string ⟨#[]⟩, .int .i64 0, .bool false, .string ⟨#[]⟩, .bool false, .bool false, .slice none 0 0] := .of (by kernel_rfl)
instance Z61 : ZI Tryz.prog 61 [.string ⟨#[]⟩, .string ⟨#[]⟩, .string ⟨#[]⟩, .string ⟨#[]⟩, .string ⟨#[]⟩] := .of (by kernel_rfl)
instance Z63 : ZI Tryz.prog 63 [.string ⟨#[]⟩, .string ⟨#[]⟩, .string ⟨#[]⟩, .string ⟨#[]⟩, .string ⟨#[]⟩, .int .i64 0, .int .i64 0] := .of (by kernel_rfl)
instance Z73 : ZI Tryz.prog 73 [.string ⟨#[]⟩, .string ⟨#[]⟩, .int .i64 0, .int .i64 0, .string ⟨#[]⟩, .string ⟨#[]⟩, .slice none 0 0] := .of (by kernel_rfl)
instance Z9 : ZI Tryz.prog 9 [.string ⟨#[]⟩] := .of (by kernel_rfl)
end Go.Proofs.YtglaahpagjjmoaaGreatDoor

namespace Go.Proofs.YtglaahpagjjmoaaGreatDoor
open Go Go.SL Go.Proofs
instance B124 : BI Tryz.prog 124 [.int .i64 0, .string ⟨#[]⟩, .int .i64 0, .int .i64 0, .int .i64 0, .string ⟨#[]⟩, .string ⟨#[]⟩, .int .i64 0] [(0, 1), (1, 1), (2, 1), (3, 1), (4, 1), (5, 1), (6, 1), (7, 1)] := .of (by kernel_rfl) (by kernel_rfl)
instance B24 : BI Tryz.prog 24 [.int .i64 0] [(0, 1)] := .of (by kernel_rfl) (by kernel_rfl)
instance B57 : BI Tryz.prog 57 [.string ⟨#[]⟩, .string ⟨#[]⟩, .int .i64 0, .bool false, .string ⟨#[]⟩, .bool false, .bool false, .slice none 0 0] [(0, 1), (1, 1), (2, 1), (3, 1), (4, 1), (5, 1), (6, 1), (7, 1)] := .of (by kernel_rfl) (by kernel_rfl)
instance C103 : CI Tryz.prog 103 := .of (by kernel_rfl)
instance C107 : CI Tryz.prog 107 := .of (by kernel_rfl)
instance C108 : CI Tryz.prog 108 := .of (by kernel_rfl)
instance C109 : CI Tryz.prog 109 := .of (by kernel_rfl)
instance C11 : CI Tryz.prog 11 := .of (by kernel_rfl)
instance C12 : CI Tryz.prog 12 := .of (by kernel_rfl)
instance C13 : CI Tryz.prog 13 := .of (by kernel_rfl)
instance C15 : CI Tryz.prog 15 := .of (by kernel_rfl)
instance C16 : CI Tryz.prog 16 := .of (by kernel_rfl)
instance C22 : CI Tryz.prog 22 := .of (by kernel_rfl)
instance C23 : CI Tryz.prog 23 := .of (by kernel_rfl)
instance C24 : CI Tryz.prog 24 := .of (by kernel_rfl)
instance C25 : CI Tryz.prog 25 := .of (by kernel_rfl)
instance C27 : CI Tryz.prog 27 := .of (by kernel_rfl)
instance C28 : CI Tryz.prog 28 := .of (by kernel_rfl)
instance C29 : CI Tryz.prog 29 := .of (by kernel_rfl)
instance C30 : CI Tryz.prog 30 := .of (by kernel_rfl)
instance C31 : CI Tryz.prog 31 := .of (by kernel_rfl)
instance C32 : CI Tryz.prog 32 := .of (by kernel_rfl)
instance C33 : CI Tryz.prog 33 := .of (by kernel_rfl)
instance C55 : CI Tryz.prog 55 := .of (by kernel_rfl)
instance C59 : CI Tryz.prog 59 := .of (by kernel_rfl)
instance C60 : CI Tryz.prog 60 := .of (by kernel_rfl)
instance C61 : CI Tryz.prog 61 := .of (by kernel_rfl)
instance C62 : CI Tryz.prog 62 := .of (by kernel_rfl)
instance C64 : CI Tryz.prog 64 := .of (by kernel_rfl)
instance C65 : CI Tryz.prog 65 := .of (by kernel_rfl)
instance C76 : CI Tryz.prog 76 := .of (by kernel_rfl)
instance EI124 : EI Tryz.prog 124 [.int, .str, .int, .int, .int, .str, .str, .int] := .of (by kernel_rfl)
instance EI51 : EI Tryz.prog 51 [.int, .int] := .of (by kernel_rfl)
instance F27_0 : FI Tryz.prog 27 0 22 0 := .of (by kernel_rfl)
instance F27_1 : FI Tryz.prog 27 1 24 1 := .of (by kernel_rfl)
instance F27_2 : FI Tryz.prog 27 2 25 2 := .of (by kernel_rfl)
instance F27_3 : FI Tryz.prog 27 3 9 3 := .of (by kernel_rfl)
instance F27_4 : FI Tryz.prog 27 4 3 4 := .of (by kernel_rfl)
instance F27_5 : FI Tryz.prog 27 5 3 5 := .of (by kernel_rfl)
instance F27_6 : FI Tryz.prog 27 6 9 6 := .of (by kernel_rfl)
instance F27_7 : FI Tryz.prog 27 7 9 7 := .of (by kernel_rfl)
instance M42 : MI Tryz.prog 42 9 112 [.int .i64 0, .string ⟨#[]⟩, .int .i64 0, .int .i64 0, .int .i64 0, .string ⟨#[]⟩, .string ⟨#[]⟩, .int .i64 0, .slice none 0 0] := .of (by kernel_rfl) rfl
instance S174 : SI Tryz.prog 174 32 1 := .of (by kernel_rfl) (by kernel_rfl)
instance T124 : TI Tryz.prog 124 true 8 := .of (by kernel_rfl)
instance T22 : TI Tryz.prog 22 false 1 := .of (by kernel_rfl)
instance T25 : TI Tryz.prog 25 false 1 := .of (by kernel_rfl)
instance T27 : TI Tryz.prog 27 true 8 := .of (by kernel_rfl)
instance Z124 : ZI Tryz.prog 124 [.int .i64 0, .string ⟨#[]⟩, .int .i64 0, .int .i64 0, .int .i64 0, .string ⟨#[]⟩, .string ⟨#[]⟩, .int .i64 0] := .of (by kernel_rfl)
instance Z51 : ZI Tryz.prog 51 [.int .i64 0, .int .i64 0] := .of (by kernel_rfl)
end Go.Proofs.YtglaahpagjjmoaaGreatDoor

namespace Go.Proofs.YtglaahpagjjmoaaGreatDoor
open Go Go.SL Go.Proofs
instance C117 : CI Tryz.prog 117 := .of (by kernel_rfl)
instance C118 : CI Tryz.prog 118 := .of (by kernel_rfl)
instance C119 : CI Tryz.prog 119 := .of (by kernel_rfl)
instance C120 : CI Tryz.prog 120 := .of (by kernel_rfl)
instance C121 : CI Tryz.prog 121 := .of (by kernel_rfl)
instance C122 : CI Tryz.prog 122 := .of (by kernel_rfl)
instance C123 : CI Tryz.prog 123 := .of (by kernel_rfl)
instance C133 : CI Tryz.prog 133 := .of (by kernel_rfl)
instance C134 : CI Tryz.prog 134 := .of (by kernel_rfl)
instance C135 : CI Tryz.prog 135 := .of (by kernel_rfl)
instance C136 : CI Tryz.prog 136 := .of (by kernel_rfl)
instance C137 : CI Tryz.prog 137 := .of (by kernel_rfl)
instance C138 : CI Tryz.prog 138 := .of (by kernel_rfl)
instance C139 : CI Tryz.prog 139 := .of (by kernel_rfl)
instance C14 : CI Tryz.prog 14 := .of (by kernel_rfl)
instance C140 : CI Tryz.prog 140 := .of (by kernel_rfl)
instance C154 : CI Tryz.prog 154 := .of (by kernel_rfl)
instance C155 : CI Tryz.prog 155 := .of (by kernel_rfl)
instance C156 : CI Tryz.prog 156 := .of (by kernel_rfl)
instance C157 : CI Tryz.prog 157 := .of (by kernel_rfl)
instance C166 : CI Tryz.prog 166 := .of (by kernel_rfl)
instance C167 : CI Tryz.prog 167 := .of (by kernel_rfl)
instance C183 : CI Tryz.prog 183 := .of (by kernel_rfl)
instance C35 : CI Tryz.prog 35 := .of (by kernel_rfl)
instance C36 : CI Tryz.prog 36 := .of (by kernel_rfl)
instance C37 : CI Tryz.prog 37 := .of (by kernel_rfl)
instance C43 : CI Tryz.prog 43 := .of (by kernel_rfl)
instance C70 : CI Tryz.prog 70 := .of (by kernel_rfl)
instance C71 : CI Tryz.prog 71 := .of (by kernel_rfl)
instance C72 : CI Tryz.prog 72 := .of (by kernel_rfl)
instance C73 : CI Tryz.prog 73 := .of (by kernel_rfl)
instance C74 : CI Tryz.prog 74 := .of (by kernel_rfl)
instance C75 : CI Tryz.prog 75 := .of (by kernel_rfl)
instance C84 : CI Tryz.prog 84 := .of (by kernel_rfl)
instance C85 : CI Tryz.prog 85 := .of (by kernel_rfl)
instance C86 : CI Tryz.prog 86 := .of (by kernel_rfl)
instance C87 : CI Tryz.prog 87 := .of (by kernel_rfl)
instance EI61 : EI Tryz.prog 61 [.str, .str, .str, .str, .str] := .of (by kernel_rfl)
instance M61 : MI Tryz.prog 61 5 80 [.string ⟨#[]⟩, .string ⟨#[]⟩, .string ⟨#[]⟩, .string ⟨#[]⟩, .string ⟨#[]⟩] := .of (by kernel_rfl) rfl
instance S192 : SI Tryz.prog 192 61 5 := .of (by kernel_rfl) (by kernel_rfl)
end Go.Proofs.YtglaahpagjjmoaaGreatDoor

namespace Go.Proofs.YtglaahpagjjmoaaGreatDoor
open Go Go.SL Go.Proofs
instance C141 : CI Tryz.prog 141 := .of (by kernel_rfl)
instance C168 : CI Tryz.prog 168 := .of (by kernel_rfl)
instance C17 : CI Tryz.prog 17 := .of (by kernel_rfl)
instance C18 : CI Tryz.prog 18 := .of (by kernel_rfl)
instance C40 : CI Tryz.prog 40 := .of (by kernel_rfl)
instance C41 : CI Tryz.prog 41 := .of (by kernel_rfl)
instance C42 : CI Tryz.prog 42 := .of (by kernel_rfl)
instance C44 : CI Tryz.prog 44 := .of (by kernel_rfl)
instance C83 : CI Tryz.prog 83 := .of (by kernel_rfl)
instance C88 : CI Tryz.prog 88 := .of (by kernel_rfl)
instance EI151 : EI Tryz.prog 151 [.str, .str] := .of (by kernel_rfl)
end Go.Proofs.YtglaahpagjjmoaaGreatDoor

namespace Go.Proofs.YtglaahpagjjmoaaGreatDoor
open Go Go.SL Go.Proofs
section
attribute [local irreducible] OpJ RunL Run RunD DetJ pt own star Rd RdS
theorem c_letter (c : Int) : AC Tryz.prog 163 ⟨[.int .u8 c]⟩ (stars []) (Ret (Bo (letterB c)) []) := by
 refine AC.go Tryz.func163 rfl (Nat.le_of_ble_eq_true rfl) fun β => ?_
 refine sr ?_
 refine asg rfl rfl ?_
 refine kp [0] rfl ?_
 refine sr ?_
 refine sx 3 ?_
 first | refine RunL.splitP (t := 5) rfl (fun g1 => ?_) (fun g1 => ?_) | refine RunL.split (t := 5) rfl (fun g1 => ?_) (fun g1 => ?_)
 refine sx 4 ?_
 first | refine RunL.splitP (t := 9) rfl (fun g2 => ?_) (fun g2 => ?_) | refine RunL.split (t := 9) rfl (fun g2 => ?_) (fun g2 => ?_)
 refine sx 12 ?_
 refine kp [2] rfl ?_
 refine Run.ret ?_
 exact ret_one (.tmp rfl .nil) (by first | (simp [tup, letterB,  *]; done) | (exfalso; omega)) gv
 refine sx 3 ?_
 first | refine RunL.splitP (t := 12) rfl (fun g3 => ?_) (fun g3 => ?_) | refine RunL.split (t := 12) rfl (fun g3 => ?_) (fun g3 => ?_)
 refine sx 5 ?_
 first | refine RunL.splitP (t := 17) rfl (fun g4 => ?_) (fun g4 => ?_) | refine RunL.split (t := 17) rfl (fun g4 => ?_) (fun g4 => ?_)
 refine sx 4 ?_
 refine kp [2] rfl ?_
 refine Run.ret ?_
 exact ret_one (.tmp rfl .nil) (by first | (simp [tup, letterB,  *]; done) | (exfalso; omega)) gv
 refine sx 4 ?_
 refine kp [2] rfl ?_
 refine Run.ret ?_
 exact ret_one (.tmp rfl .nil) (by first | (simp [tup, letterB,  *]; done) | (exfalso; omega)) gv
 refine sx 9 ?_
 refine kp [2] rfl ?_
 refine Run.ret ?_
 exact ret_one (.tmp rfl .nil) (by first | (simp [tup, letterB,  *]; done) | (exfalso; omega)) gv
 refine sx 7 ?_
 first | refine RunL.splitP (t := 12) rfl (fun g5 => ?_) (fun g5 => ?_) | refine RunL.split (t := 12) rfl (fun g5 => ?_) (fun g5 => ?_)
 refine sx 5 ?_
 first | refine RunL.splitP (t := 17) rfl (fun g6 => ?_) (fun g6 => ?_) | refine RunL.split (t := 17) rfl (fun g6 => ?_) (fun g6 => ?_)
 refine sx 4 ?_
 refine kp [2] rfl ?_
 refine Run.ret ?_
 exact ret_one (.tmp rfl .nil) (by first | (simp [tup, letterB,  *]; done) | (exfalso; omega)) gv
 refine sx 4 ?_
 refine kp [2] rfl ?_
 refine Run.ret ?_
 exact ret_one (.tmp rfl .nil) (by first | (simp [tup, letterB,  *]; done) | (exfalso; omega)) gv
 refine sx 9 ?_
 refine kp [2] rfl ?_
 refine Run.ret ?_
 exact ret_one (.tmp rfl .nil) (by first | (simp [tup, letterB,  *]; done) | (exfalso; omega)) gv
theorem c_digit (c : Int) : AC Tryz.prog 164 ⟨[.int .u8 c]⟩ (stars []) (Ret (Bo (digitB c)) []) := by
 refine AC.go Tryz.func164 rfl (Nat.le_of_ble_eq_true rfl) fun β => ?_
 refine sr ?_
 refine asg rfl rfl ?_
 refine kp [0] rfl ?_
 refine sr ?_
 refine sx 3 ?_
 first | refine RunL.splitP (t := 5) rfl (fun g1 => ?_) (fun g1 => ?_) | refine RunL.split (t := 5) rfl (fun g1 => ?_) (fun g1 => ?_)
 refine sx 4 ?_
 refine kp [2] rfl ?_
 refine Run.ret ?_
 exact ret_one (.tmp rfl .nil) (by first | (simp [tup, digitB,  *]; done) | (exfalso; omega)) gv
 refine sx 4 ?_
 refine kp [2] rfl ?_
 refine Run.ret ?_
 exact ret_one (.tmp rfl .nil) (by first | (simp [tup, digitB,  *]; done) | (exfalso; omega)) gv
theorem c_code1 (c : Int) : AC Tryz.prog 162 ⟨[.int .u8 c]⟩ (stars []) (Ret (Bo (letterB c || digitB c)) []) := by
 refine AC.go Tryz.func162 rfl (Nat.le_of_ble_eq_true rfl) fun β => ?_
 refine sr ?_
 refine asg rfl rfl ?_
 refine kp [0] rfl ?_
 refine sr ?_
 refine mvo rfl rfl ?_
 refine RunL.call C163 rfl rfl rfl (c_letter _) .nil ?_
 refine mvo rfl rfl ?_
 first | refine RunL.splitP (t := 5) rfl (fun g1 => ?_) (fun g1 => ?_) | refine RunL.split (t := 5) rfl (fun g1 => ?_) (fun g1 => ?_)
 refine sx 4 ?_
 refine kp [2] rfl ?_
 refine Run.ret ?_
 exact ret_one (.tmp rfl .nil) (by first | (simp [tup,  *]; done) | (exfalso; omega)) gv
 refine sx 1 ?_
 refine RunL.callG C164 rfl rfl rfl rfl rfl (c_digit _) .nil ?_
 refine sx 2 ?_
 refine kp [2] rfl ?_
 refine Run.ret ?_
 exact ret_one (.tmp rfl .nil) (by first | (simp [tup,  *]; done) | (exfalso; omega)) gv
theorem c_printable (c : Int) : AC Tryz.prog 165 ⟨[.int .u8 c]⟩ (stars []) (Ret (Bo (decide (32 ≤ c ∧ c ≤ 126))) []) := by
 refine AC.go Tryz.func165 rfl (Nat.le_of_ble_eq_true rfl) fun β => ?_
 refine sr ?_
 refine asg rfl rfl ?_
 refine kp [0] rfl ?_
 refine sr ?_
 refine sx 3 ?_
 first | refine RunL.splitP (t := 5) rfl (fun g1 => ?_) (fun g1 => ?_) | refine RunL.split (t := 5) rfl (fun g1 => ?_) (fun g1 => ?_)
 refine sx 4 ?_
 refine kp [2] rfl ?_
 refine Run.ret ?_
 exact ret_one (.tmp rfl .nil) (by first | (simp [tup,  *]; done) | (exfalso; omega)) gv
 refine sx 4 ?_
 refine kp [2] rfl ?_
 refine Run.ret ?_
 exact ret_one (.tmp rfl .nil) (by first | (simp [tup,  *]; done) | (exfalso; omega)) gv
theorem c_every (fid : Nat) (p : UInt8 → Bool) (s : ByteArray) (hs : (s.size : Int) ≤ 1000) (C : CI Tryz.prog fid) (hf : ∀ u : UInt8, AC Tryz.prog fid ⟨[.int .u8 (u.toNat : Int)]⟩ (stars []) (Ret (Bo (p u)) [])) : AC Tryz.prog 161 ⟨[St s, .func (.func fid) #[] #[]]⟩ (stars []) (Ret (Bo (s.data.toList.all p)) []) := by
 refine AC.go Tryz.func161 rfl (Nat.le_of_ble_eq_true rfl) fun β => ?_
 refine sr ?_
 refine asg rfl rfl ?_
 refine kp [0, 1] rfl ?_
 refine Run.seq ?_
 refine sr ?_
 refine sx 3 ?_
 refine kp [0, 1, 7, 8] rfl ?_
 refine Run.block ?_
 refine Run.loop (fun mm E L => ∃ i : Nat, mm = s.size - i ∧ i ≤ s.size ∧ (∀ (j : Nat) u, j < i → s[j]? = some u → p u = true) ∧ E = [(0, St s), (1, .func (.func fid) #[] #[]), (7, I s.size), (8, I i)] ∧ L = []) ⟨_, 0, rfl, Nat.zero_le _, fun _ _ h => by omega, rfl, rfl⟩ ?_
 rintro _ _ _ ⟨i, rfl, hi, hI0, rfl, rfl⟩
 refine sr ?_
 refine sx 1 ?_
 refine kp [0, 1, 7, 8, 9] rfl ?_
 refine Run.seq ?_
 first | refine Run.if rfl (fun h1 => ?_) (fun h1 => ?_) | refine Run.cond rfl (fun h1 => ?_) (fun h1 => ?_)
 refine Run.skip ?_
 refine Run.seq ?_
 refine Run.block ?_
 refine sr ?_
 refine sx 2 ?_
 refine kp [0, 1, 5, 7, 8] rfl ?_
 refine sr ?_
 obtain ⟨u, hu⟩ := byte_ex (s := s) (i := i) (by omega)
 refine sx 3 ?_
 refine RunL.op rfl rfl (OpJ.indexS U9 rfl rfl (by omega) hu ?_)
 refine RunL.call C rfl rfl rfl (hf u) .nil ?_
 refine RunL.op rfl rfl (OpJ.not rfl ?_)
 refine kp [0, 1, 7, 8, 16] rfl ?_
 first | refine Run.if rfl (fun h2 => ?_) (fun h2 => ?_) | refine Run.cond rfl (fun h2 => ?_) (fun h2 => ?_)
 refine sr ?_
 refine asg rfl rfl ?_
 refine kp [4] rfl ?_
 refine Run.ret ?_
 exact ret_one (.tmp rfl .nil) (congrArg Bo (all_false hu (by simpa using h2)).symm) gv
 refine Run.skip ?_
 refine Run.region ?_
 refine sx 2 ?_
 exact RunL.next (Keep.sub (kt (ks := [0, 1, 7, 8]) rfl)) _ ⟨_, by omega, i + 1, rfl, by omega, fun j v hj hv => (by rcases Nat.lt_succ_iff_lt_or_eq.1 hj with h | rfl; exact hI0 j v h hv; rw [hu] at hv; cases hv; simpa using h2), rfl, rfl⟩ gv
 refine Run.exit ?_
 refine sr ?_
 refine asg rfl rfl ?_
 refine kp [4] rfl ?_
 refine Run.ret ?_
 exact ret_one (.tmp rfl .nil) (congrArg Bo (all_true fun j u hj hu => hI0 j u (by omega) hu).symm) gv
end
theorem c_everyC (s : ByteArray) (hs : (s.size : Int) ≤ 1000) : AC Tryz.prog 161 ⟨[St s, .func (.func 162) #[] #[]]⟩ (stars []) (Ret (Bo (everyB s)) []) := by
  have e : everyB s = s.data.toList.all byteOk := by with_unfolding_all rfl
  rw [e]; exact c_every 162 byteOk s hs (CI.of (by kernel_rfl)) fun u => c_code1 _
theorem c_everyP (s : ByteArray) (hs : (s.size : Int) ≤ 1000) : AC Tryz.prog 161 ⟨[St s, .func (.func 165) #[] #[]]⟩ (stars []) (Ret (Bo (s.data.toList.all prB)) []) := c_every 165 prB s hs (CI.of (by kernel_rfl)) fun u => c_printable _
section
attribute [local irreducible] OpJ RunL Run RunD DetJ pt own star Rd RdS
theorem c_Code (s : ByteArray) : AC Tryz.prog 128 ⟨[St s]⟩ (stars []) (Ret (Bo (codeB s)) []) := by
 refine AC.go Tryz.func128 rfl (Nat.le_of_ble_eq_true rfl) fun β => ?_
 refine sr ?_
 refine asg rfl rfl ?_
 refine kp [0] rfl ?_
 refine sr ?_
 refine sx 3 ?_
 first | refine RunL.splitP (t := 5) rfl (fun g1 => ?_) (fun g1 => ?_) | refine RunL.split (t := 5) rfl (fun g1 => ?_) (fun g1 => ?_)
 refine sx 5 ?_
 first | refine RunL.splitP (t := 10) rfl (fun g2 => ?_) (fun g2 => ?_) | refine RunL.split (t := 10) rfl (fun g2 => ?_) (fun g2 => ?_)
 refine sx 1 ?_
 refine RunL.callG C161 rfl rfl rfl rfl rfl (c_everyC _ (by omega)) .nil ?_
 refine sx 2 ?_
 refine kp [2] rfl ?_
 refine Run.ret ?_
 exact ret_one (.tmp rfl .nil) (by first | (simp [tup, codeB,  *]; done) | (exfalso; omega)) gv
 refine sx 4 ?_
 refine kp [2] rfl ?_
 refine Run.ret ?_
 exact ret_one (.tmp rfl .nil) (by first | (simp [tup, codeB,  *]; done) | (exfalso; omega)) gv
 refine sx 9 ?_
 refine kp [2] rfl ?_
 refine Run.ret ?_
 exact ret_one (.tmp rfl .nil) (by first | (simp [tup, codeB,  *]; done) | (exfalso; omega)) gv
theorem c_Plain (s : ByteArray) : AC Tryz.prog 130 ⟨[St s]⟩ (stars []) (Ret (Bo (plainB s)) []) := by
 refine AC.go Tryz.func130 rfl (Nat.le_of_ble_eq_true rfl) fun β => ?_
 refine sr ?_
 refine asg rfl rfl ?_
 refine kp [0] rfl ?_
 refine sr ?_
 refine sx 4 ?_
 first | refine RunL.splitP (t := 6) rfl (fun g1 => ?_) (fun g1 => ?_) | refine RunL.split (t := 6) rfl (fun g1 => ?_) (fun g1 => ?_)
 refine sx 1 ?_
 refine RunL.callG C161 rfl rfl rfl rfl rfl (c_everyP _ (by omega)) .nil ?_
 refine sx 2 ?_
 refine kp [2] rfl ?_
 refine Run.ret ?_
 exact ret_one (.tmp rfl .nil) (by first | (simp [tup, plainB,  *]; done) | (exfalso; omega)) gv
 refine sx 4 ?_
 refine kp [2] rfl ?_
 refine Run.ret ?_
 exact ret_one (.tmp rfl .nil) (by first | (simp [tup, plainB,  *]; done) | (exfalso; omega)) gv
theorem c_Cur (s : ByteArray) (hs : (s.size : Int) ≤ 9223372036854775807) : AC Tryz.prog 113 ⟨[St s]⟩ (stars []) (Ret (Bo (curB s)) []) := by
 refine AC.go Tryz.func113 rfl (Nat.le_of_ble_eq_true rfl) fun β => ?_
 refine sr ?_
 refine asg rfl rfl ?_
 refine kp [0] rfl ?_
 refine sr ?_
 refine asg rfl rfl ?_
 refine kp [0, 3] rfl ?_
 refine Run.seq ?_
 refine sr ?_
 refine mvo rfl rfl ?_
 refine RunL.op rfl rfl (OpJ.rangeS U9 rfl fun r7 => ?_)
 refine kp [3, 7] rfl ?_
 refine Run.block ?_
 refine Run.loop (fun mm E L => ∃ i : Nat, mm = s.size - i ∧ i ≤ s.size ∧ (∀ (j : Nat) u, j < i → s[j]? = some u → capB u = true) ∧ E = [(3, I i), (7, .pointer (some ⟨r7, 0, none⟩))] ∧ L = [pt r7 (.stringIter s i)]) ⟨_, 0, rfl, Nat.zero_le _, fun _ _ h => by omega, rfl, rfl⟩ ?_
 rintro _ _ _ ⟨i, rfl, hi, hI0, rfl, rfl⟩
 refine sr ?_
 refine RunL.op rfl rfl (OpJ.nextS rfl pk (fun j => up) (fun hge => ?_) (fun hlt => ?_))
 skip
 refine sx 1 ?_
 refine kp [3, 7, 8, 9] rfl ?_
 refine Run.seq ?_
 refine Run.false rfl ?_
 refine Run.exit ?_
 refine sr ?_
 refine sx 3 ?_
 refine kp [2] rfl ?_
 refine Run.ret ?_
 exact ret_one (.tmp rfl .nil) (by unfold curB; rw [all_true fun j u hj hu => hI0 j u (by omega) hu, Bool.and_true]; exact congrArg Bo (decide_eq_decide.2 (by omega))) gv
 obtain ⟨u, hu⟩ := byte_ex (s := s) (i := i) (by omega)
 have hcd := cap_dec hu
 refine sx 1 ?_
 refine kp [3, 7, 8, 9] rfl ?_
 refine Run.seq ?_
 refine Run.true rfl ?_
 refine Run.skip ?_
 refine Run.block ?_
 refine sr ?_
 refine sx 2 ?_
 refine kp [3, 5, 7] rfl ?_
 refine Run.seq ?_
 refine sr ?_
 refine sx 3 ?_
 first | refine RunL.splitP (t := 13) rfl (fun g1 => ?_) (fun g1 => ?_) | refine RunL.split (t := 13) rfl (fun g1 => ?_) (fun g1 => ?_)
 refine sx 3 ?_
 refine kp [3, 7, 16] rfl ?_
 refine Run.true rfl ?_
 refine sr ?_
 refine asg rfl rfl ?_
 refine kp [2] rfl ?_
 refine Run.ret ?_
 exact ret_one (.tmp rfl .nil) (by have hc := (hcd.resolve_left fun h => by { have h2 := h.1; have h3 : (Utf8.decode s i).1 = u.toNat := (by rw [h.2]); unfold capB at h2; rw [decide_eq_true_eq] at h2; omega }).1; unfold curB; rw [all_false hu hc, Bool.and_false]; rfl) gv
 refine sx 3 ?_
 refine kp [3, 7, 16] rfl ?_
 first | refine Run.if rfl (fun h2 => ?_) (fun h2 => ?_) | refine Run.cond rfl (fun h2 => ?_) (fun h2 => ?_)
 refine sr ?_
 refine asg rfl rfl ?_
 refine kp [2] rfl ?_
 refine Run.ret ?_
 exact ret_one (.tmp rfl .nil) (by have hc := (hcd.resolve_left fun h => by { have h2 := h.1; have h3 : (Utf8.decode s i).1 = u.toNat := (by rw [h.2]); unfold capB at h2; rw [decide_eq_true_eq] at h2; omega }).1; unfold curB; rw [all_false hu hc, Bool.and_false]; rfl) gv
 refine Run.skip ?_
 refine Run.region ?_
 refine sx 3 ?_
 obtain ⟨hc1, hc2⟩ := hcd.resolve_right (fun h => h.2 (by omega))
 rw [hc2]
 exact RunL.next (Keep.sub (kt (ks := [3, 7]) rfl)) _ ⟨_, by omega, i + 1, rfl, by omega, fun j v hj hv => (by rcases Nat.lt_succ_iff_lt_or_eq.1 hj with h | rfl; exact hI0 j v h hv; rw [hu] at hv; cases hv; exact hc1), rfl, rfl⟩ gv
theorem c_opt (s : ByteArray) : AC Tryz.prog 131 ⟨[St s]⟩ (stars []) (Ret (Bo (optB s)) []) := by
 refine AC.go Tryz.func131 rfl (Nat.le_of_ble_eq_true rfl) fun β => ?_
 refine sr ?_
 refine asg rfl rfl ?_
 refine kp [0] rfl ?_
 refine sr ?_
 refine sx 3 ?_
 first | refine RunL.splitP (t := 5) rfl (fun g1 => ?_) (fun g1 => ?_) | refine RunL.split (t := 5) rfl (fun g1 => ?_) (fun g1 => ?_)
 refine sx 4 ?_
 refine kp [2] rfl ?_
 refine Run.ret ?_
 exact ret_one (.tmp rfl .nil) (by first | (simp [tup, optB,  *]; done) | (exfalso; omega)) gv
 refine sx 1 ?_
 refine RunL.callG C128 rfl rfl rfl rfl rfl (c_Code _) .nil ?_
 refine sx 2 ?_
 refine kp [2] rfl ?_
 refine Run.ret ?_
 exact ret_one (.tmp rfl .nil) (by first | (simp [tup, optB,  *]; done) | (exfalso; omega)) gv
theorem c_within (n lim : Int) (hl : 0 ≤ lim ∧ lim ≤ 1000000000000000) : AC Tryz.prog 132 ⟨[I n, I lim]⟩ (stars []) (Ret (Bo (wiB n lim)) []) := by
 refine AC.go Tryz.func132 rfl (Nat.le_of_ble_eq_true rfl) fun β => ?_
 refine sr ?_
 refine asg rfl rfl ?_
 refine kp [0, 1] rfl ?_
 refine sr ?_
 refine sx 3 ?_
 refine RunL.set (congrArg I (show _ = -lim by rw [wrap_i64_in (by omega)]; omega)) ?_
 refine sx 2 ?_
 first | refine RunL.splitP (t := 9) rfl (fun g1 => ?_) (fun g1 => ?_) | refine RunL.split (t := 9) rfl (fun g1 => ?_) (fun g1 => ?_)
 refine sx 5 ?_
 refine kp [4] rfl ?_
 refine Run.ret ?_
 exact ret_one (.tmp rfl .nil) (by first | (simp [tup, wiB,  *]; done) | (exfalso; omega)) gv
 refine sx 5 ?_
 refine kp [4] rfl ?_
 refine Run.ret ?_
 exact ret_one (.tmp rfl .nil) (by first | (simp [tup, wiB,  *]; done) | (exfalso; omega)) gv
theorem c_codes (t : Tg) : AC Tryz.prog 159 ⟨[.agg ⟨t.c⟩]⟩ (stars []) (Ret (Bo (tgOk t)) []) := by
 refine AC.go Tryz.func159 rfl (Nat.le_of_ble_eq_true rfl) fun β => ?_
 refine sr ?_
 refine RunL.op rfl rfl (OpJ.boxA rfl fun b1 => ?_)
 refine asg rfl rfl ?_
 refine kp [1] rfl ?_
 refine sr ?_
 refine sx 2 ?_
 refine RunL.call C128 rfl rfl rfl (c_Code _) .nil ?_
 refine mvo rfl rfl ?_
 first | refine RunL.splitP (t := 6) rfl (fun g1 => ?_) (fun g1 => ?_) | refine RunL.split (t := 6) rfl (fun g1 => ?_) (fun g1 => ?_)
 refine sx 2 ?_
 refine RunL.callG C128 rfl rfl rfl rfl rfl (c_Code _) .nil ?_
 refine sx 2 ?_
 refine kp [2] rfl ?_
 refine Run.ret ?_
 exact ret_one (.tmp rfl .nil) (by first | (simp [tup, tgOk,  *]; done) | (exfalso; omega)) gv
 refine sx 5 ?_
 refine kp [2] rfl ?_
 refine Run.ret ?_
 exact ret_one (.tmp rfl .nil) (by first | (simp [tup, tgOk,  *]; done) | (exfalso; omega)) gv
theorem c_dRight (R : HP) (oa : Option Addr) (cap : Nat) (ts : List Tg) (hR : RdS R oa (ts.flatMap Tg.c)) : AC Tryz.prog 125 ⟨[.slice oa ts.length cap]⟩ (stars [R]) (Ret (Bo (rightB ts)) [R]) := by
 refine AC.go Tryz.func125 rfl (Nat.le_of_ble_eq_true rfl) fun β => ?_
 refine sr ?_
 refine asg rfl rfl ?_
 refine kp [0] rfl ?_
 refine Run.seq ?_
 refine sr ?_
 refine sx 3 ?_
 refine kp [0, 7] rfl ?_
 first | refine Run.if rfl (fun h1 => ?_) (fun h1 => ?_) | refine Run.cond rfl (fun h1 => ?_) (fun h1 => ?_)
 refine sr ?_
 refine asg rfl rfl ?_
 refine kp [2] rfl ?_
 refine Run.ret ?_
 exact ret_one (.tmp rfl .nil) (by rw [right_long (by omega)]; rfl) gv
 refine Run.skip ?_
 refine Run.seq ?_
 refine sr ?_
 refine sx 3 ?_
 refine kp [0, 8, 9, 10] rfl ?_
 refine Run.block ?_
 refine Run.loop (fun mm E L => ∃ i : Nat, mm = ts.length - i ∧ i ≤ ts.length ∧ okTo ts i ∧ E = [(0, .slice oa ts.length cap), (8, .slice oa ts.length cap), (9, I ts.length), (10, I i)] ∧ L = [R]) ⟨_, 0, rfl, Nat.zero_le _, okTo.zero, rfl, rfl⟩ ?_
 rintro _ _ _ ⟨i, rfl, hi, hI0, rfl, rfl⟩
 refine sr ?_
 refine sx 1 ?_
 refine kp [0, 8, 9, 10, 11] rfl ?_
 refine Run.seq ?_
 first | refine Run.if rfl (fun h2 => ?_) (fun h2 => ?_) | refine Run.cond rfl (fun h2 => ?_) (fun h2 => ?_)
 refine Run.skip ?_
 refine Run.seq ?_
 refine Run.block ?_
 refine sr ?_
 obtain ⟨t, ht⟩ := get_ex (xs := ts) (i := i) (by omega)
 refine RunL.rdOpen pk hR (flat_ne (k := 2) (fun _ => rfl) (by decide) ht) fun b o e hrd => ?_
 subst e
 refine sx 2 ?_
 refine RunL.op rfl rfl (OpJ.loadA inferInstance rfl pk (hrd.elem (fun _ => rfl) ht) rfl ?_)
 refine RunL.op rfl rfl (OpJ.alloc Z151 fun b4 => ?_)
 refine asg rfl rfl ?_
 refine RunL.op rfl rfl (OpJ.storeW T151 rfl rfl rfl rfl (by simp [Value.oneCell', Tg.c, Ln.c, En.c, Ac.c, Cl.c, Ky.c, Qy.c, Sb, Iv]) up ?_)
 refine kp [0, 3, 4, 8, 9, 10] rfl ?_
 refine Run.seq ?_
 refine regionD HM ?_
 first | refine RunD.takeW 0 rfl rfl kr T151 rfl pk (by rfl) ?_ | refine RunD.takeP 0 rfl rfl kr T151 rfl pk (by simp) ?_ | refine RunD.takeE 0 rfl rfl kr T151 rfl pk (by assumption) (by exact fun _ => rfl) rfl (by decide) ?_
 refine RunD.op 1 [false] rfl rfl rfl kr kr (OpJ.callRet C159 rfl rfl (c_codes _) .nil ⟨po, ?_⟩)
 refine tk 2 rfl rfl rfl (DetJ.not rfl) ?_
 refine tk 3 rfl rfl rfl (DetJ.move rfl) ?_
 rcases Bool.eq_false_or_eq_true (tgOk t) with hok | hok
 refine RunD.set (v := Bo false) (by rw [hok]; rfl) ?_
 refine RunD.takeG 4 rfl rfl rfl rfl rfl kr (DetJ.move rfl) .nil ?_
 refine RunD.takeG 5 rfl rfl rfl rfl rfl kr (DetJ.gtr rfl rfl) .nil ?_
 refine RunD.takeG 6 rfl rfl rfl rfl rfl kr (DetJ.move rfl) .nil ?_
 by_cases hp : 0 < i
 obtain ⟨j, rfl⟩ : ∃ j, i = j + 1 := ⟨i - 1, by omega⟩
 obtain ⟨u, hu⟩ := get_ex (xs := ts) (i := j) (by omega)
 refine RunD.set (congrArg Bo (decide_eq_true (by omega))) ?_
 refine RunD.takeG 7 rfl rfl rfl rfl rfl kr (DetJ.move rfl) .nil ?_
 refine RunD.takeG 8 rfl rfl rfl rfl rfl kr (DetJ.move rfl) .nil ?_
 first | refine RunD.takeG 9 rfl rfl rfl rfl rfl kr (DetJ.subI rfl rfl (by omega)) .nil ?_ | refine RunD.takeG 9 rfl rfl rfl rfl rfl kr (DetJ.sub rfl rfl) .nil ?_
 refine RunD.set (v := I (j : Int)) (congrArg I (by omega)) ?_
 refine RunD.takeG 10 rfl rfl rfl rfl rfl kr (DetJ.indexAddr S71 rfl rfl (by omega)) .nil ?_
 refine RunD.takeG 11 rfl rfl rfl rfl rfl kr (DetJ.fieldAddr F151_0 rfl) .nil ?_
 refine RunD.takeGR1 12 rfl rfl rfl rfl kr T9 rfl pk (hrd.at (enc := Tg.c) 2 (fun _ => rfl) hu 0 (St u.name) rfl) ?_
 refine RunD.takeG 13 rfl rfl rfl rfl rfl kr (DetJ.fieldAddr F151_0 rfl) .nil ?_
 first | refine RunD.takeGF 14 rfl rfl rfl rfl kr T9 rfl pk (by rfl) ?_ | refine RunD.takeGO 14 rfl rfl rfl rfl kr T9 rfl pk (by assumption) (by rfl) (by exact fun _ => rfl) ?_
 refine RunD.takeG 15 rfl rfl rfl rfl rfl kr (DetJ.geqS rfl rfl) .nil ?_
 refine RunD.takeG 16 rfl rfl rfl rfl rfl kr (DetJ.pickT rfl rfl) .nil ?_
 refine tk 17 rfl rfl rfl (DetJ.pickF rfl rfl) ?_
 refine kd [0, 8, 9, 10, 32] rfl ?_
 first | refine Run.if rfl (fun h3 => ?_) (fun h3 => ?_) | refine Run.cond rfl (fun h3 => ?_) (fun h3 => ?_)
 refine sr ?_
 refine asg rfl rfl ?_
 refine kp [2] rfl ?_
 refine Run.ret ?_
 exact ret_one (.tmp rfl .nil) (by rw [okT_fall ht hu (by simpa [blt] using h3)]; rfl) gv
 refine Run.skip ?_
 refine Run.region ?_
 refine sx 2 ?_
 exact RunL.next (Keep.sub (kt (ks := [0, 8, 9, 10]) rfl)) _ ⟨_, by omega, j + 1 + 1, rfl, by omega, hI0.step ht hok (fun j2 u2 q1 q2 => by { obtain rfl : j2 = j := by { omega }; rw [hu] at q2; cases q2; simpa [blt] using h3 }), rfl, rfl⟩ gv
 refine RunD.set (congrArg Bo (decide_eq_false (by omega))) ?_
 refine RunD.takeN 7 rfl rfl rfl rfl rfl kr ?_
 refine RunD.takeN 8 rfl rfl rfl rfl rfl kr ?_
 refine RunD.takeN 9 rfl rfl rfl rfl rfl kr ?_
 refine RunD.takeN 10 rfl rfl rfl rfl rfl kr ?_
 refine RunD.takeN 11 rfl rfl rfl rfl rfl kr ?_
 refine RunD.takeN 12 rfl rfl rfl rfl rfl kr ?_
 refine RunD.takeN 13 rfl rfl rfl rfl rfl kr ?_
 refine RunD.takeN 14 rfl rfl rfl rfl rfl kr ?_
 refine RunD.takeN 15 rfl rfl rfl rfl rfl kr ?_
 refine RunD.takeG 16 rfl rfl rfl rfl rfl kr (DetJ.pickF rfl rfl) .nil ?_
 refine tk 17 rfl rfl rfl (DetJ.pickF rfl rfl) ?_
 refine kd [0, 8, 9, 10, 32] rfl ?_
 refine Run.false rfl ?_
 refine Run.skip ?_
 refine Run.region ?_
 refine sx 2 ?_
 exact RunL.next (Keep.sub (kt (ks := [0, 8, 9, 10]) rfl)) _ ⟨_, by omega, i + 1, rfl, by omega, hI0.step ht hok (fun j2 u2 q1 q2 => by omega), rfl, rfl⟩ gv
 refine RunD.set (v := Bo true) (by rw [hok]; rfl) ?_
 refine RunD.takeN 4 rfl rfl rfl rfl rfl kr ?_
 refine RunD.takeN 5 rfl rfl rfl rfl rfl kr ?_
 refine RunD.takeN 6 rfl rfl rfl rfl rfl kr ?_
 refine RunD.takeU 7 rfl rfl rfl rfl rfl ?_
 refine RunD.takeU 8 rfl rfl rfl rfl rfl ?_
 refine RunD.takeU 9 rfl rfl rfl rfl rfl ?_
 refine RunD.takeU 10 rfl rfl rfl rfl rfl ?_
 refine RunD.takeU 11 rfl rfl rfl rfl rfl ?_
 refine RunD.takeU 12 rfl rfl rfl rfl rfl ?_
 refine RunD.takeU 13 rfl rfl rfl rfl rfl ?_
 refine RunD.takeU 14 rfl rfl rfl rfl rfl ?_
 refine RunD.takeU 15 rfl rfl rfl rfl rfl ?_
 refine RunD.takeN 16 rfl rfl rfl rfl rfl kr ?_
 refine tk 17 rfl rfl rfl (DetJ.pickT rfl rfl) ?_
 refine kd [0, 8, 9, 10, 32] rfl ?_
 refine Run.true rfl ?_
 refine sr ?_
 refine asg rfl rfl ?_
 refine kp [2] rfl ?_
 refine Run.ret ?_
 exact ret_one (.tmp rfl .nil) (by rw [okT_bad ht hok]; rfl) gv
 refine Run.exit ?_
 refine sr ?_
 refine asg rfl rfl ?_
 refine kp [2] rfl ?_
 refine Run.ret ?_
 exact ret_one (.tmp rfl .nil) (by rw [hI0.all (by omega) (by omega)]; rfl) gv
end
instance mpAcc : MPI Tryz.prog 107 9 57 := ⟨by kernel_rfl⟩
instance zvAcc : ZVI Tryz.prog 57 (.agg ⟨Ac0.c⟩) := ⟨by kernel_rfl⟩
theorem sb1 : ∀ x : ByteArray, ∀ v ∈ Sb x, v.oneCell' = true := fun x v hv => by simp [Sb] at hv; subst hv; rfl
section
attribute [local irreducible] OpJ RunL Run RunD DetJ pt own star Rd RdS
theorem cl_str (R : HP) (oa : Option Addr) (cap : Nat) (ls : List ByteArray) (hR : RdS R oa (ls.flatMap Sb)) (hlen : ls.length ≤ 1000000) : AC Tryz.prog 98 ⟨[.slice oa ls.length cap]⟩ (stars [R]) (Outs (fun _ : Option Addr × Nat => True) (fun x => .slice x.1 ls.length x.2) (fun x => [own 9 1 x.1 ls.length x.2 (ls.flatMap Sb), R])) := by
 refine AC.go Tryz.func98 rfl (Nat.le_of_ble_eq_true rfl) fun β => ?_
 refine sr ?_
 refine asg rfl rfl ?_
 refine kp [0] rfl ?_
 refine Run.seq ?_
 refine sr ?_
 refine sx 2 ?_
 refine kp [0, 4] rfl ?_
 first | refine Run.if rfl (fun h1 => ?_) (fun h1 => ?_) | refine Run.cond rfl (fun h1 => ?_) (fun h1 => ?_)
 refine sr ?_
 by_cases hne : ls.flatMap Sb ≠ []
 refine RunL.rdOpen pk hR hne fun b o e hrd => ?_
 rw [e] at h1
 cases h1
 obtain rfl : ls = [] := by
   cases ls with
   | nil => rfl
   | cons l ls => exact absurd (by simp [Sb]) hne
 refine RunL.ownNil 9 1 ?_
 refine asg rfl rfl ?_
 refine kp [2] rfl ?_
 refine Run.ret ?_
 exact ret_out (none, 0) (.tmp rfl .nil) trivial rfl gv
 refine Run.skip ?_
 refine sr ?_
 refine RunL.op rfl rfl (OpJ.buildSlice0 S55 fun b5 => ?_)
 refine mvo rfl rfl ?_
 refine RunL.op rfl rfl (OpJ.appendAll S55 M9 rfl rfl pk pk hR (flat_len (enc := Sb) (k := 1) (fun _ => rfl) _) (by decide) (flat_one sb1 _) (by omega) (by omega) fun a7 c7 => ?_)
 simp only [Nat.zero_add, List.nil_append]
 refine asg rfl rfl ?_
 refine kp [2] rfl ?_
 refine Run.ret ?_
 exact ret_out (a7, c7) (.tmp rfl .nil) trivial rfl gv
theorem c_copied (a : Ac) (R : HP) (hR : RdS R a.na (a.need.flatMap Sb)) (hl : a.need.length ≤ 140737488355328) (hl6 : a.need.length ≤ 1000000) : AC Tryz.prog 53 ⟨[.agg ⟨a.c⟩]⟩ (stars [R]) (Outs (fun _ : Option Addr × Nat => True) (fun y => .agg ⟨(a.put y).c⟩) (fun y => [own 9 1 y.1 a.need.length y.2 (a.need.flatMap Sb), R])) := by
 refine AC.go Tryz.func53 rfl (Nat.le_of_ble_eq_true rfl) fun β => ?_
 refine sr ?_
 refine RunL.op rfl rfl (OpJ.boxA rfl fun b1 => ?_)
 refine RunL.op rfl rfl (OpJ.alloc Z57 fun b2 => ?_)
 refine kp [1, 2] rfl ?_
 refine sr ?_
 refine sx 2 ?_
 refine RunL.callX C98 rfl rfl rfl (cl_str R a.na a.nc a.need hR hl6) tks fun ⟨na, nc⟩ _ => ?_
 refine sx 1 ?_
 refine RunL.op rfl rfl (OpJ.store1 inferInstance rfl rfl rfl up (by simp [Ac.c]) ?_)
 refine kp [1, 2] rfl ?_
 refine sr ?_
 refine sx 1 ?_
 refine RunL.op rfl rfl (OpJ.storeW T57 rfl rfl rfl rfl (by simp [Value.oneCell', Tg.c, Ln.c, En.c, Ac.c, Cl.c, Ky.c, Qy.c, Sb, Iv]) up ?_)
 refine kp [2] rfl ?_
 refine Run.ret ?_
 exact ret_out (na, nc) (.cellA T57 rfl pk (by rfl) .nil) trivial rfl gv
theorem c_names (a : Ac) (R : HP) (hR : RdS R a.na (a.need.flatMap Sb)) (hl : a.need.length ≤ 140737488355328) : AC Tryz.prog 112 ⟨[.agg ⟨a.c⟩]⟩ (stars [R]) (Ret (Bo (namesB a)) [R]) := by
 refine AC.go Tryz.func112 rfl (Nat.le_of_ble_eq_true rfl) fun β => ?_
 refine sr ?_
 refine RunL.op rfl rfl (OpJ.boxA rfl fun b1 => ?_)
 refine asg rfl rfl ?_
 refine kp [1] rfl ?_
 refine Run.seq ?_
 refine sr ?_
 refine sx 4 ?_
 refine kp [1, 6, 7, 8] rfl ?_
 refine Run.block ?_
 refine Run.loop (fun mm E L => ∃ i : Nat, mm = a.need.length - i ∧ i ≤ a.need.length ∧ codeTo a.need i ∧ E = [(1, .pointer (some ⟨b1, 0, none⟩)), (6, .slice a.na a.need.length a.nc), (7, I a.need.length), (8, I i)] ∧ L = [pt b1 (blk a.c 57), R]) ⟨_, 0, rfl, Nat.zero_le _, (fun j x h => by omega), rfl, rfl⟩ ?_
 rintro _ _ _ ⟨i, rfl, hi, hI0, rfl, rfl⟩
 refine sr ?_
 refine sx 1 ?_
 refine kp [1, 6, 7, 8, 9] rfl ?_
 refine Run.seq ?_
 first | refine Run.if rfl (fun h1 => ?_) (fun h1 => ?_) | refine Run.cond rfl (fun h1 => ?_) (fun h1 => ?_)
 refine Run.skip ?_
 refine Run.seq ?_
 refine Run.block ?_
 refine sr ?_
 obtain ⟨x, hx⟩ := get_ex (xs := a.need) (i := i) (by omega)
 refine RunL.rdOpen pk hR (flat_ne (k := 1) (fun _ => rfl) (by decide) hx) fun b o ebo hrd => ?_
 rw [ebo]
 refine sx 1 ?_
 refine RunL.op rfl rfl (OpJ.load1 inferInstance rfl pk (hrd.elem (enc := Sb) (fun _ => rfl) hx) ?_)
 refine asg rfl rfl ?_
 refine kp [1, 4, 6, 7, 8] rfl ?_
 refine sr ?_
 refine mvo rfl rfl ?_
 refine RunL.call C128 rfl rfl rfl (c_Code _) .nil ?_
 refine RunL.op rfl rfl (OpJ.not rfl ?_)
 refine kp [1, 6, 7, 8, 14] rfl ?_
 first | refine Run.if rfl (fun h2 => ?_) (fun h2 => ?_) | refine Run.cond rfl (fun h2 => ?_) (fun h2 => ?_)
 refine sr ?_
 refine asg rfl rfl ?_
 refine kp [2] rfl ?_
 refine Run.ret ?_
 exact ret_one (.tmp rfl .nil) (by unfold namesB; rw [code_not hx (by simpa using h2)]; rfl) gv
 refine Run.skip ?_
 refine Run.region ?_
 refine sx 2 ?_
 exact RunL.next (Keep.sub (kt (ks := [1, 6, 7, 8]) rfl)) _ ⟨_, by omega, i + 1, rfl, by omega, (fun j y hj hy => by { by_cases e : j = i; (subst e; rw [hx] at hy; cases hy; simpa using h2); exact hI0 j y (by omega) hy }), rfl, rfl⟩ gv
 refine Run.exit ?_
 refine sr ?_
 refine sx 2 ?_
 refine RunL.call C128 rfl rfl rfl (c_Code _) .nil ?_
 refine mvo rfl rfl ?_
 first | refine RunL.splitP (t := 19) rfl (fun g3 => ?_) (fun g3 => ?_) | refine RunL.split (t := 19) rfl (fun g3 => ?_) (fun g3 => ?_)
 refine sx 4 ?_
 first | refine RunL.splitP (t := 23) rfl (fun g4 => ?_) (fun g4 => ?_) | refine RunL.split (t := 23) rfl (fun g4 => ?_) (fun g4 => ?_)
 refine sx 6 ?_
 refine kp [2] rfl ?_
 refine Run.ret ?_
 exact ret_one (.tmp rfl .nil) (by unfold namesB optB; rw [hI0.all (by omega)]; simp_all [tup]) gv
 refine sx 2 ?_
 refine RunL.callG C128 rfl rfl rfl rfl rfl (c_Code _) .nil ?_
 refine sx 3 ?_
 refine kp [2] rfl ?_
 refine Run.ret ?_
 exact ret_one (.tmp rfl .nil) (by unfold namesB optB; rw [hI0.all (by omega)]; simp_all [tup]) gv
 refine sx 10 ?_
 refine kp [2] rfl ?_
 refine Run.ret ?_
 exact ret_one (.tmp rfl .nil) (by unfold namesB optB; rw [hI0.all (by omega)]; simp_all [tup]) gv
theorem c_first (R : HP) (b cap : Nat) (rs : List Rl) (hR : Rd R ⟨b, 0, none⟩ (rs.flatMap Rl.c)) (hl : rs.length ≤ 10) : AC Tryz.prog 111 ⟨[.slice (some ⟨b, 0, none⟩) rs.length cap]⟩ (stars [R]) (Ret (I (firstE rs)) [R]) := by
 refine AC.go Tryz.func111 rfl (Nat.le_of_ble_eq_true rfl) fun β => ?_
 refine sr ?_
 refine asg rfl rfl ?_
 refine kp [0] rfl ?_
 refine Run.seq ?_
 refine sr ?_
 refine sx 3 ?_
 refine kp [5, 6, 7] rfl ?_
 refine Run.block ?_
 refine Run.loop (fun mm E L => ∃ i : Nat, mm = rs.length - i ∧ i ≤ rs.length ∧ okR rs i ∧ E = [(5, .slice (some ⟨b, 0, none⟩) rs.length cap), (6, I rs.length), (7, I i)] ∧ L = [R]) ⟨_, 0, rfl, Nat.zero_le _, (fun j x h => by omega), rfl, rfl⟩ ?_
 rintro _ _ _ ⟨i, rfl, hi, hI0, rfl, rfl⟩
 refine sr ?_
 refine sx 1 ?_
 refine kp [5, 6, 7, 8] rfl ?_
 refine Run.seq ?_
 first | refine Run.if rfl (fun h1 => ?_) (fun h1 => ?_) | refine Run.cond rfl (fun h1 => ?_) (fun h1 => ?_)
 refine Run.skip ?_
 refine Run.seq ?_
 refine Run.block ?_
 refine sr ?_
 obtain ⟨x, hx⟩ := get_ex (xs := rs) (i := i) (by omega)
 refine sx 1 ?_
 refine RunL.op rfl rfl (OpJ.loadA inferInstance rfl pk (hR.elem (fun _ => rfl) hx) rfl ?_)
 refine RunL.op rfl rfl (OpJ.alloc Z186 fun b4 => ?_)
 refine RunL.op rfl rfl (OpJ.storeW T186 rfl rfl rfl rfl (by simp [Value.oneCell', Rl.c]) up ?_)
 refine kp [4, 5, 6, 7] rfl ?_
 refine sr ?_
 refine sx 2 ?_
 refine kp [4, 5, 6, 7, 12] rfl ?_
 first | refine Run.if rfl (fun h2 => ?_) (fun h2 => ?_) | refine Run.cond rfl (fun h2 => ?_) (fun h2 => ?_)
 refine sr ?_
 refine sx 3 ?_
 refine kp [2] rfl ?_
 refine Run.ret ?_
 exact ret_one (.tmp rfl .nil) (congrArg I (first_at hI0 hx (by simpa using h2)).symm) gv
 refine Run.skip ?_
 refine Run.region ?_
 refine sx 2 ?_
 exact RunL.next (Keep.sub (kt (ks := [5, 6, 7]) rfl)) _ ⟨_, by omega, i + 1, rfl, by omega, (fun j y hj hy => by { by_cases e : j = i; (subst e; rw [hx] at hy; cases hy; simpa using h2); exact hI0 j y (by omega) hy }), rfl, rfl⟩ gv
 refine Run.exit ?_
 refine sr ?_
 refine asg rfl rfl ?_
 refine kp [2] rfl ?_
 refine Run.ret ?_
 exact ret_one (.tmp rfl .nil) (congrArg I (hI0.all (by omega)).symm) gv
theorem c_rising (R : HP) (oa : Option Addr) (cap : Nat) (ns : List ByteArray) (hR : RdS R oa (ns.flatMap Sb)) (hl : ns.length ≤ 140737488355328) : AC Tryz.prog 114 ⟨[.slice oa ns.length cap]⟩ (stars [R]) (Ret (Bo (risB ns)) [R]) := by
 refine AC.go Tryz.func114 rfl (Nat.le_of_ble_eq_true rfl) fun β => ?_
 refine sr ?_
 refine asg rfl rfl ?_
 refine kp [0] rfl ?_
 refine Run.seq ?_
 refine sr ?_
 refine asg rfl rfl ?_
 refine kp [0, 3] rfl ?_
 refine Run.block ?_
 refine Run.loop (fun mm E L => ∃ i : Nat, mm = ns.length - i ∧ risTo ns (i + 1) ∧ E = [(0, .slice oa ns.length cap), (3, I ((i + 1 : Nat) : Int))] ∧ L = [R]) ⟨_, 0, rfl, risTo.one, rfl, rfl⟩ ?_
 rintro _ _ _ ⟨i, rfl, hI0, rfl, rfl⟩
 refine Run.seq ?_
 refine sr ?_
 refine sx 4 ?_
 refine kp [0, 3, 7] rfl ?_
 first | refine Run.if rfl (fun h1 => ?_) (fun h1 => ?_) | refine Run.cond rfl (fun h1 => ?_) (fun h1 => ?_)
 refine Run.skip ?_
 refine Run.seq ?_
 refine Run.block ?_
 refine Run.seq ?_
 refine regionD HM ?_
 obtain ⟨x, hx⟩ := get_ex (xs := ns) (i := i) (by omega)
 obtain ⟨y, hy⟩ := get_ex (xs := ns) (i := i + 1) (by omega)
 refine RunD.rdOpen pk hR (flat_ne (k := 1) (fun _ => rfl) (by decide) hx) fun b o ebo hrd => ?_
 rw [ebo]
 refine tk 0 rfl rfl rfl (DetJ.move rfl) ?_
 refine tk 1 rfl rfl rfl (DetJ.move rfl) ?_
 first | refine tk 2 rfl rfl rfl (DetJ.subI rfl rfl (by omega)) ?_ | refine tk 2 rfl rfl rfl (DetJ.sub rfl rfl) ?_
 refine RunD.set (v := I (i : Int)) (congrArg I (by omega)) ?_
 refine tk 3 rfl rfl rfl (DetJ.indexAddr S55 rfl rfl (by omega)) ?_
 refine RunD.takeR1 4 rfl rfl kr T9 rfl pk (hrd.elem (enc := Sb) (fun _ => rfl) hx) ?_
 refine tk 5 rfl rfl rfl (DetJ.move rfl) ?_
 refine tk 6 rfl rfl rfl (DetJ.move rfl) ?_
 refine tk 7 rfl rfl rfl (DetJ.indexAddr S55 rfl rfl (by omega)) ?_
 refine RunD.takeR1 8 rfl rfl kr T9 rfl pk (hrd.elem (enc := Sb) (fun _ => rfl) hy) ?_
 refine tk 9 rfl rfl rfl (DetJ.geqS rfl rfl) ?_
 refine kd [0, 3, 19] rfl ?_
 first | refine Run.if rfl (fun h2 => ?_) (fun h2 => ?_) | refine Run.cond rfl (fun h2 => ?_) (fun h2 => ?_)
 refine sr ?_
 refine asg rfl rfl ?_
 refine kp [2] rfl ?_
 refine Run.ret ?_
 exact ret_one (.tmp rfl .nil) (congrArg Bo (ris_not hx hy (by simpa [blt] using h2)).symm) gv
 refine Run.skip ?_
 refine Run.region ?_
 refine sx 3 ?_
 exact RunL.next (Keep.sub (kt (ks := [0, 3]) rfl)) _ ⟨_, by omega, i + 1, rfl, hI0.step hx hy (by simpa [blt] using h2), rfl, rfl⟩ gv
 refine Run.exit ?_
 refine sr ?_
 refine asg rfl rfl ?_
 refine kp [2] rfl ?_
 refine Run.ret ?_
 exact ret_one (.tmp rfl .nil) (congrArg Bo (hI0.all (by omega)).symm) gv
theorem c_has (s : ByteArray) (pb : Nat) (b bm : Nat) (v w : Value) (m : List Ac) : AC Tryz.prog 110 ⟨[St s, .pointer (some ⟨pb, 0, none⟩)]⟩ (stars [pt pb (blk [.pointer (some ⟨b, 0, none⟩)] 28), pt b (blk [.map (some bm), v, w] 110), amap bm acF acG m]) (Ret (Bo (getL m s).isSome) [pt pb (blk [.pointer (some ⟨b, 0, none⟩)] 28), pt b (blk [.map (some bm), v, w] 110), amap bm acF acG m]) := by
 refine AC.go Tryz.func110 rfl (Nat.le_of_ble_eq_true rfl) fun β => ?_
 refine sr ?_
 refine asg rfl rfl ?_
 refine kp [0, 1] rfl ?_
 refine sr ?_
 refine sx 5 ?_
 refine RunL.op rfl rfl (OpJ.lookup2 keyStr inferInstance inferInstance inferInstance rfl rfl pk ?_)
 rcases hk : kAt Ac.code s m with _ | q
 rw [gotL_none hk]
 refine RunL.set (v := .tuple ⟨[acG Ac0, Bo false]⟩) rfl ?_
 refine sx 3 ?_
 refine RunL.op rfl rfl (OpJ.alloc Z57 fun b4 => ?_)
 refine RunL.op rfl rfl (OpJ.storeW T57 rfl rfl rfl rfl (by simp [Value.oneCell', Tg.c, Ln.c, En.c, Ac.c, Cl.c, Ky.c, Qy.c, Sb, Iv]) up ?_)
 refine asg rfl rfl ?_
 refine kp [5] rfl ?_
 refine sr ?_
 refine sx 2 ?_
 refine kp [3] rfl ?_
 refine Run.ret ?_
 exact ret_one (.tmp rfl .nil) (rfl) gv
 rw [gotL_some hk]
 refine RunL.set (v := .tuple ⟨[acG q.2, Bo true]⟩) rfl ?_
 refine sx 3 ?_
 refine RunL.op rfl rfl (OpJ.alloc Z57 fun b4 => ?_)
 refine RunL.op rfl rfl (OpJ.storeW T57 rfl rfl rfl rfl (by simp [Value.oneCell', Tg.c, Ln.c, En.c, Ac.c, Cl.c, Ky.c, Qy.c, Sb, Iv]) up ?_)
 refine asg rfl rfl ?_
 refine kp [5] rfl ?_
 refine sr ?_
 refine sx 2 ?_
 refine kp [3] rfl ?_
 refine Run.ret ?_
 exact ret_one (.tmp rfl .nil) (rfl) gv
theorem c_circular (b bm : Nat) (v w : Value) (m : List Ac) (code : ByteArray) (hl : m.length ≤ 400) : AC Tryz.prog 115 ⟨[.pointer (some ⟨b, 0, none⟩), St code]⟩ (stars [pt b (blk [.map (some bm), v, w] 110), amap bm acF acG m]) (Ret (Bo (circB m code)) [pt b (blk [.map (some bm), v, w] 110), amap bm acF acG m]) := by
 refine AC.go Tryz.func115 rfl (Nat.le_of_ble_eq_true rfl) fun β => ?_
 refine sr ?_
 refine asg rfl rfl ?_
 refine kp [0, 1] rfl ?_
 refine sr ?_
 refine sx 5 ?_
 refine RunL.op rfl rfl (OpJ.lookupA1 inferInstance inferInstance inferInstance rfl rfl pk ?_)
 refine sx 1 ?_
 refine RunL.set (v := St (parOf m code)) (congrArg St par_lk) ?_
 refine asg rfl rfl ?_
 refine kp [0, 1, 5] rfl ?_
 refine Run.seq ?_
 refine sr ?_
 refine sx 4 ?_
 refine RunL.op rfl rfl (OpJ.lenM mpAcc rfl pk ?_)
 refine mvo rfl rfl ?_
 refine kp [0, 1, 5, 17, 18] rfl ?_
 refine Run.block ?_
 refine Run.loop (fun mm E L => ∃ (i : Nat) (at_ : ByteArray), mm = m.length - i ∧ i ≤ m.length ∧ circN m code (m.length - i) at_ = circB m code ∧ E = [(0, .pointer (some ⟨b, 0, none⟩)), (1, St code), (5, St at_), (17, I m.length), (18, I i)] ∧ L = [pt b (blk [.map (some bm), v, w] 110), amap bm acF acG m]) ⟨_, 0, _, rfl, Nat.zero_le _, rfl, rfl, rfl⟩ ?_
 rintro _ _ _ ⟨i, at_, rfl, hi, hI0, rfl, rfl⟩
 refine sr ?_
 refine sx 1 ?_
 refine kp [0, 1, 5, 17, 18, 19] rfl ?_
 refine Run.seq ?_
 first | refine Run.if rfl (fun h1 => ?_) (fun h1 => ?_) | refine Run.cond rfl (fun h1 => ?_) (fun h1 => ?_)
 refine Run.skip ?_
 refine Run.seq ?_
 refine Run.block ?_
 refine Run.seq ?_
 refine sr ?_
 refine sx 3 ?_
 refine kp [0, 1, 5, 17, 18, 22] rfl ?_
 first | refine Run.if rfl (fun h2 => ?_) (fun h2 => ?_) | refine Run.cond rfl (fun h2 => ?_) (fun h2 => ?_)
 refine sr ?_
 refine asg rfl rfl ?_
 refine kp [4] rfl ?_
 refine Run.ret ?_
 exact ret_one (.tmp rfl .nil) (by obtain ⟨n, hn⟩ : ∃ n, m.length - i = n + 1 := ⟨m.length - i - 1, by omega⟩; rw [hn, circ_true (by simpa using h2)] at hI0; rw [← hI0]; rfl) gv
 refine Run.skip ?_
 refine Run.region ?_
 refine sx 5 ?_
 refine RunL.op rfl rfl (OpJ.lookupA1 inferInstance inferInstance inferInstance rfl rfl pk ?_)
 refine sx 1 ?_
 refine RunL.set (v := St (parOf m at_)) (congrArg St par_lk) ?_
 refine asg rfl rfl ?_
 refine kp [0, 1, 5, 17, 18] rfl ?_
 refine Run.region ?_
 refine sx 2 ?_
 obtain ⟨n, hn⟩ : ∃ n, m.length - i = n + 1 := ⟨m.length - i - 1, by omega⟩
 rw [hn, circ_step (by simpa using h2)] at hI0
 exact RunL.next (Keep.sub (kt (ks := [0, 1, 5, 17, 18]) rfl)) _ ⟨_, by omega, i + 1, _, rfl, by omega, (by rw [← hI0, show m.length - (i + 1) = n by omega]), rfl, rfl⟩ gv
 refine Run.exit ?_
 refine sr ?_
 refine asg rfl rfl ?_
 refine kp [4] rfl ?_
 refine Run.ret ?_
 exact ret_one (.tmp rfl .nil) (by rw [show m.length - i = 0 by omega] at hI0; rw [← hI0]; rfl) gv
theorem c_alone (b bm : Nat) (v w : Value) (m : List Ac) (a : Ac) (R : HP) (hR : RdS R a.na (a.need.flatMap Sb)) (hl : a.need.length ≤ 140737488355328) (hc : (a.cur.size : Int) ≤ 9223372036854775807) : AC Tryz.prog 66 ⟨[.pointer (some ⟨b, 0, none⟩), .agg ⟨a.c⟩]⟩ (stars [pt b (blk [.map (some bm), v, w] 110), amap bm acF acG m, R]) (Ret (I (aloneE m a)) [pt b (blk [.map (some bm), v, w] 110), amap bm acF acG m, R]) := by
 refine AC.go Tryz.func66 rfl (Nat.le_of_ble_eq_true rfl) fun β => ?_
 refine sr ?_
 refine RunL.op rfl rfl (OpJ.box rfl rfl fun b2 => ?_)
 refine RunL.op rfl rfl (OpJ.boxA rfl fun b3 => ?_)
 refine asg rfl rfl ?_
 refine kp [2, 3] rfl ?_
 refine sr ?_
 refine sx 2 ?_
 refine kp [3, 5] rfl ?_
 refine Run.seq ?_
 refine regionD HM ?_
 first | refine RunD.takeW 0 rfl rfl kr T57 rfl pk (by rfl) ?_ | refine RunD.takeP 0 rfl rfl kr T57 rfl pk (by simp) ?_ | refine RunD.takeE 0 rfl rfl kr T57 rfl pk (by assumption) (by exact fun _ => rfl) rfl (by decide) ?_
 refine tk 4 rfl rfl rfl (DetJ.fieldAddr F57_2 rfl) ?_
 first | refine RunD.takeF 5 rfl rfl kr T3 rfl pk (by rfl) ?_ | refine RunD.takeO 5 rfl rfl kr T3 rfl pk (by assumption) (by rfl) (by exact fun _ => rfl) ?_
 refine tk 6 rfl rfl rfl (DetJ.lss rfl rfl) ?_
 refine tk 13 rfl rfl rfl (DetJ.fieldAddr F57_4 rfl) ?_
 first | refine RunD.takeF 14 rfl rfl kr T9 rfl pk (by rfl) ?_ | refine RunD.takeO 14 rfl rfl kr T9 rfl pk (by assumption) (by rfl) (by exact fun _ => rfl) ?_
 refine tk 15 rfl rfl rfl (DetJ.neqS rfl rfl) ?_
 refine tk 23 rfl rfl rfl (DetJ.move rfl) ?_
 refine tk 24 rfl rfl rfl (DetJ.fieldAddr F57_0 rfl) ?_
 first | refine RunD.takeF 25 rfl rfl kr T9 rfl pk (by rfl) ?_ | refine RunD.takeO 25 rfl rfl kr T9 rfl pk (by assumption) (by rfl) (by exact fun _ => rfl) ?_
 refine tk 28 rfl rfl rfl (DetJ.fieldAddr F57_7 rfl) ?_
 first | refine RunD.takeF 29 rfl rfl kr T55 rfl pk (by rfl) ?_ | refine RunD.takeO 29 rfl rfl kr T55 rfl pk (by assumption) (by rfl) (by exact fun _ => rfl) ?_
 refine tk 30 rfl rfl rfl (DetJ.len S55 rfl) ?_
 refine tk 31 rfl rfl rfl (DetJ.gtr rfl rfl) ?_
 refine RunD.op 1 [true, true, true, true, true, true, true, true, true, true, true, true, true, false] rfl rfl rfl kr kr (OpJ.callRet C112 rfl rfl (c_names _ R (by assumption) (by omega)) tks ⟨po, ?_⟩)
 refine tk 2 rfl rfl rfl (DetJ.not rfl) ?_
 refine RunD.takeB 3 rfl rfl kr B186 rfl rfl fun cs hcs => ?_
 simp only [Tg.c, Ln.c, En.c, Ac.c, Cl.c, Ky.c, Qy.c, bldL, bldA, Value.cells, bs, Nat.reduceAdd, Nat.reduceLeDiff, Nat.reduceLT] at hcs; subst hcs
 refine tk 7 rfl rfl rfl (DetJ.move rfl) ?_
 by_cases hk1 : a.kind < 1
 refine RunD.set (congrArg Bo (decide_eq_true hk1)) ?_
 refine RunD.takeN 8 rfl rfl rfl rfl rfl kr ?_
 refine RunD.takeN 9 rfl rfl rfl rfl rfl kr ?_
 refine RunD.takeN 10 rfl rfl rfl rfl rfl kr ?_
 refine tk 11 rfl rfl rfl (DetJ.pickT rfl rfl) ?_
 refine RunD.set (v := Bo (decide (a.kind < 1 ∨ 5 < a.kind))) (by first | (simp [hk1]; done) | (congr 1; simp; omega)) ?_
 refine RunD.takeB 12 rfl rfl kr B186 rfl rfl fun cs hcs => ?_
 simp only [Tg.c, Ln.c, En.c, Ac.c, Cl.c, Ky.c, Qy.c, bldL, bldA, Value.cells, bs, Nat.reduceAdd, Nat.reduceLeDiff, Nat.reduceLT] at hcs; subst hcs
 refine tk 16 rfl rfl rfl (DetJ.move rfl) ?_
 by_cases hk2 : a.cur = bs0
 refine RunD.set (v := Bo false) (by rw [decide_eq_false (by simpa using hk2)]) ?_
 refine RunD.takeN 17 rfl rfl rfl rfl rfl kr ?_
 refine RunD.takeN 18 rfl rfl rfl rfl rfl kr ?_
 refine RunD.takeN 19 rfl rfl rfl rfl rfl kr ?_
 refine RunD.takeN 20 rfl rfl rfl rfl rfl kr ?_
 refine tk 21 rfl rfl rfl (DetJ.pickF rfl rfl) ?_
 refine RunD.set (v := Bo (decide (a.cur ≠ bs0) && !curB a.cur)) (by simp [hk2]) ?_
 refine RunD.takeB 22 rfl rfl kr B186 rfl rfl fun cs hcs => ?_
 simp only [Tg.c, Ln.c, En.c, Ac.c, Cl.c, Ky.c, Qy.c, bldL, bldA, Value.cells, bs, Nat.reduceAdd, Nat.reduceLeDiff, Nat.reduceLT] at hcs; subst hcs
 refine RunD.op 26 [true, true, true, false, false, false, false, true, true, true, true, true, false, true, true, true, true, true, true, false, false, false, false, true, true, true, true, true] rfl rfl rfl kr kr (OpJ.callRet C110 rfl rfl (c_has a.code b2 b bm v w m) tks ⟨po, ?_⟩)
 refine RunD.takeB 27 rfl rfl kr B186 rfl rfl fun cs hcs => ?_
 simp only [Tg.c, Ln.c, En.c, Ac.c, Cl.c, Ky.c, Qy.c, bldL, bldA, Value.cells, bs, Nat.reduceAdd, Nat.reduceLeDiff, Nat.reduceLT] at hcs; subst hcs
 refine tk 32 rfl rfl rfl (DetJ.move rfl) ?_
 by_cases hk3 : 6 < a.need.length
 refine RunD.set (congrArg Bo (decide_eq_true (by omega))) ?_
 refine RunD.takeN 33 rfl rfl rfl rfl rfl kr ?_
 refine RunD.takeN 34 rfl rfl rfl rfl rfl kr ?_
 refine RunD.takeN 35 rfl rfl rfl rfl rfl kr ?_
 refine RunD.takeN 36 rfl rfl rfl rfl rfl kr ?_
 refine tk 37 rfl rfl rfl (DetJ.pickT rfl rfl) ?_
 refine RunD.set (v := Bo (decide (6 < a.need.length) || !risB a.need)) (by simp [hk3]) ?_
 refine RunD.takeB 38 rfl rfl kr B186 rfl rfl fun cs hcs => ?_
 simp only [Tg.c, Ln.c, En.c, Ac.c, Cl.c, Ky.c, Qy.c, bldL, bldA, Value.cells, bs, Nat.reduceAdd, Nat.reduceLeDiff, Nat.reduceLT] at hcs; subst hcs
 refine RunD.op 39 [false, false, false, true, true, true, false, false, false, false, false, false, false, false, true, true, false, false, true, true, true, true, true, true, true, true, true] rfl rfl rfl kr kr (OpJ.buildSliceN (cs := (aloneR m a).flatMap Rl.c) inferInstance Z186 rfl (by decide) (by decide) rfl (by rfl) (by rfl) fun b46 => ⟨po, ?_⟩)
 refine RunD.op 40 [false, false, false, true, true, false, true, true, true, true, true, true, true, true] rfl rfl rfl kr kr (OpJ.callRet C111 rfl rfl (c_first (pt b46 (blk ((aloneR m a).flatMap Rl.c) 186)) b46 5 (aloneR m a) Rd.whole (by simp [aloneR])) tks ⟨po, ?_⟩)
 refine tk 41 rfl rfl rfl (DetJ.assign rfl) ?_
 refine kd [4] rfl ?_
 refine Run.ret ?_
 exact ret_one (.tmp rfl .nil) (rfl) gv
 refine RunD.set (congrArg Bo (decide_eq_false (by omega))) ?_
 refine RunD.takeG 33 rfl rfl rfl rfl rfl kr (DetJ.fieldAddr F57_7 rfl) .nil ?_
 first | refine RunD.takeGF 34 rfl rfl rfl rfl kr T55 rfl pk (by rfl) ?_ | refine RunD.takeGO 34 rfl rfl rfl rfl kr T55 rfl pk (by assumption) (by rfl) (by exact fun _ => rfl) ?_
 refine RunD.opG 35 [false, false, false, true, true, true, true, true, true, true, true, true, true, true, false, false, true, true, true, true, true, true, true] rfl rfl rfl rfl rfl kr kr (OpJ.callRet C114 rfl rfl (c_rising R _ _ _ (by assumption) (by omega)) tks ⟨po, ?_⟩)
 refine RunD.takeG 36 rfl rfl rfl rfl rfl kr (DetJ.not rfl) .nil ?_
 refine tk 37 rfl rfl rfl (DetJ.pickF rfl rfl) ?_
 refine RunD.set (v := Bo (decide (6 < a.need.length) || !risB a.need)) (by simp [hk3]) ?_
 refine RunD.takeB 38 rfl rfl kr B186 rfl rfl fun cs hcs => ?_
 simp only [Tg.c, Ln.c, En.c, Ac.c, Cl.c, Ky.c, Qy.c, bldL, bldA, Value.cells, bs, Nat.reduceAdd, Nat.reduceLeDiff, Nat.reduceLT] at hcs; subst hcs
 refine RunD.op 39 [false, false, false, false, false, false, false, false, false, false, true, true, false, false, true, true, true, true, true, true, true] rfl rfl rfl kr kr (OpJ.buildSliceN (cs := (aloneR m a).flatMap Rl.c) inferInstance Z186 rfl (by decide) (by decide) rfl (by rfl) (by rfl) fun b46 => ⟨po, ?_⟩)
 refine RunD.op 40 [true, true, true, true, true, true, true, true, true] rfl rfl rfl kr kr (OpJ.callRet C111 rfl rfl (c_first (pt b46 (blk ((aloneR m a).flatMap Rl.c) 186)) b46 5 (aloneR m a) Rd.whole (by simp [aloneR])) tks ⟨po, ?_⟩)
 refine tk 41 rfl rfl rfl (DetJ.assign rfl) ?_
 refine kd [4] rfl ?_
 refine Run.ret ?_
 exact ret_one (.tmp rfl .nil) (rfl) gv
 refine RunD.set (v := Bo true) (by rw [decide_eq_true (by simpa using hk2)]) ?_
 refine RunD.takeG 17 rfl rfl rfl rfl rfl kr (DetJ.fieldAddr F57_4 rfl) .nil ?_
 first | refine RunD.takeGF 18 rfl rfl rfl rfl kr T9 rfl pk (by rfl) ?_ | refine RunD.takeGO 18 rfl rfl rfl rfl kr T9 rfl pk (by assumption) (by rfl) (by exact fun _ => rfl) ?_
 refine RunD.opG 19 [false, false, false, true, true, true, true, true, false, true, true, true, true, true, true, true, true, true, false, false, true, false, true, true] rfl rfl rfl rfl rfl kr kr (OpJ.callRet C113 rfl rfl (c_Cur _ hc) .nil ⟨po, ?_⟩)
 refine RunD.takeG 20 rfl rfl rfl rfl rfl kr (DetJ.not rfl) .nil ?_
 refine tk 21 rfl rfl rfl (DetJ.pickT rfl rfl) ?_
 refine RunD.set (v := Bo (decide (a.cur ≠ bs0) && !curB a.cur)) (by simp [hk2]) ?_
 refine RunD.takeB 22 rfl rfl kr B186 rfl rfl fun cs hcs => ?_
 simp only [Tg.c, Ln.c, En.c, Ac.c, Cl.c, Ky.c, Qy.c, bldL, bldA, Value.cells, bs, Nat.reduceAdd, Nat.reduceLeDiff, Nat.reduceLT] at hcs; subst hcs
 refine RunD.op 26 [true, true, true, true, true, true, true, true, true, true, true, true, true, true, false, false, false, true, true, true] rfl rfl rfl kr kr (OpJ.callRet C110 rfl rfl (c_has a.code b2 b bm v w m) tks ⟨po, ?_⟩)
 refine RunD.takeB 27 rfl rfl kr B186 rfl rfl fun cs hcs => ?_
 simp only [Tg.c, Ln.c, En.c, Ac.c, Cl.c, Ky.c, Qy.c, bldL, bldA, Value.cells, bs, Nat.reduceAdd, Nat.reduceLeDiff, Nat.reduceLT] at hcs; subst hcs
 refine tk 32 rfl rfl rfl (DetJ.move rfl) ?_
 by_cases hk3 : 6 < a.need.length
 refine RunD.set (congrArg Bo (decide_eq_true (by omega))) ?_
 refine RunD.takeN 33 rfl rfl rfl rfl rfl kr ?_
 refine RunD.takeN 34 rfl rfl rfl rfl rfl kr ?_
 refine RunD.takeN 35 rfl rfl rfl rfl rfl kr ?_
 refine RunD.takeN 36 rfl rfl rfl rfl rfl kr ?_
 refine tk 37 rfl rfl rfl (DetJ.pickT rfl rfl) ?_
 refine RunD.set (v := Bo (decide (6 < a.need.length) || !risB a.need)) (by simp [hk3]) ?_
 refine RunD.takeB 38 rfl rfl kr B186 rfl rfl fun cs hcs => ?_
 simp only [Tg.c, Ln.c, En.c, Ac.c, Cl.c, Ky.c, Qy.c, bldL, bldA, Value.cells, bs, Nat.reduceAdd, Nat.reduceLeDiff, Nat.reduceLT] at hcs; subst hcs
 refine RunD.op 39 [false, false, false, true, true, true, false, false, false, false, false, false, false, false, true, true, false, false, true, true, true, true, true, true, true] rfl rfl rfl kr kr (OpJ.buildSliceN (cs := (aloneR m a).flatMap Rl.c) inferInstance Z186 rfl (by decide) (by decide) rfl (by rfl) (by rfl) fun b46 => ⟨po, ?_⟩)
 refine RunD.op 40 [false, false, false, true, true, false, true, true, true, true, true, true] rfl rfl rfl kr kr (OpJ.callRet C111 rfl rfl (c_first (pt b46 (blk ((aloneR m a).flatMap Rl.c) 186)) b46 5 (aloneR m a) Rd.whole (by simp [aloneR])) tks ⟨po, ?_⟩)
 refine tk 41 rfl rfl rfl (DetJ.assign rfl) ?_
 refine kd [4] rfl ?_
 refine Run.ret ?_
 exact ret_one (.tmp rfl .nil) (rfl) gv
 refine RunD.set (congrArg Bo (decide_eq_false (by omega))) ?_
 refine RunD.takeG 33 rfl rfl rfl rfl rfl kr (DetJ.fieldAddr F57_7 rfl) .nil ?_
 first | refine RunD.takeGF 34 rfl rfl rfl rfl kr T55 rfl pk (by rfl) ?_ | refine RunD.takeGO 34 rfl rfl rfl rfl kr T55 rfl pk (by assumption) (by rfl) (by exact fun _ => rfl) ?_
 refine RunD.opG 35 [false, false, false, true, true, true, true, true, true, true, true, true, true, true, false, false, true, true, true, true, true] rfl rfl rfl rfl rfl kr kr (OpJ.callRet C114 rfl rfl (c_rising R _ _ _ (by assumption) (by omega)) tks ⟨po, ?_⟩)
 refine RunD.takeG 36 rfl rfl rfl rfl rfl kr (DetJ.not rfl) .nil ?_
 refine tk 37 rfl rfl rfl (DetJ.pickF rfl rfl) ?_
 refine RunD.set (v := Bo (decide (6 < a.need.length) || !risB a.need)) (by simp [hk3]) ?_
 refine RunD.takeB 38 rfl rfl kr B186 rfl rfl fun cs hcs => ?_
 simp only [Tg.c, Ln.c, En.c, Ac.c, Cl.c, Ky.c, Qy.c, bldL, bldA, Value.cells, bs, Nat.reduceAdd, Nat.reduceLeDiff, Nat.reduceLT] at hcs; subst hcs
 refine RunD.op 39 [false, false, false, false, false, false, false, false, false, false, true, true, false, false, true, true, true, true, true] rfl rfl rfl kr kr (OpJ.buildSliceN (cs := (aloneR m a).flatMap Rl.c) inferInstance Z186 rfl (by decide) (by decide) rfl (by rfl) (by rfl) fun b46 => ⟨po, ?_⟩)
 refine RunD.op 40 [true, true, true, true, true, true, true] rfl rfl rfl kr kr (OpJ.callRet C111 rfl rfl (c_first (pt b46 (blk ((aloneR m a).flatMap Rl.c) 186)) b46 5 (aloneR m a) Rd.whole (by simp [aloneR])) tks ⟨po, ?_⟩)
 refine tk 41 rfl rfl rfl (DetJ.assign rfl) ?_
 refine kd [4] rfl ?_
 refine Run.ret ?_
 exact ret_one (.tmp rfl .nil) (rfl) gv
 refine RunD.set (congrArg Bo (decide_eq_false hk1)) ?_
 refine RunD.takeG 8 rfl rfl rfl rfl rfl kr (DetJ.fieldAddr F57_2 rfl) .nil ?_
 first | refine RunD.takeGF 9 rfl rfl rfl rfl kr T3 rfl pk (by rfl) ?_ | refine RunD.takeGO 9 rfl rfl rfl rfl kr T3 rfl pk (by assumption) (by rfl) (by exact fun _ => rfl) ?_
 refine RunD.takeG 10 rfl rfl rfl rfl rfl kr (DetJ.gtr rfl rfl) .nil ?_
 refine tk 11 rfl rfl rfl (DetJ.pickF rfl rfl) ?_
 refine RunD.set (v := Bo (decide (a.kind < 1 ∨ 5 < a.kind))) (by first | (simp [hk1]; done) | (congr 1; simp; omega)) ?_
 refine RunD.takeB 12 rfl rfl kr B186 rfl rfl fun cs hcs => ?_
 simp only [Tg.c, Ln.c, En.c, Ac.c, Cl.c, Ky.c, Qy.c, bldL, bldA, Value.cells, bs, Nat.reduceAdd, Nat.reduceLeDiff, Nat.reduceLT] at hcs; subst hcs
 refine tk 16 rfl rfl rfl (DetJ.move rfl) ?_
 by_cases hk2 : a.cur = bs0
 refine RunD.set (v := Bo false) (by rw [decide_eq_false (by simpa using hk2)]) ?_
 refine RunD.takeN 17 rfl rfl rfl rfl rfl kr ?_
 refine RunD.takeN 18 rfl rfl rfl rfl rfl kr ?_
 refine RunD.takeN 19 rfl rfl rfl rfl rfl kr ?_
 refine RunD.takeN 20 rfl rfl rfl rfl rfl kr ?_
 refine tk 21 rfl rfl rfl (DetJ.pickF rfl rfl) ?_
 refine RunD.set (v := Bo (decide (a.cur ≠ bs0) && !curB a.cur)) (by simp [hk2]) ?_
 refine RunD.takeB 22 rfl rfl kr B186 rfl rfl fun cs hcs => ?_
 simp only [Tg.c, Ln.c, En.c, Ac.c, Cl.c, Ky.c, Qy.c, bldL, bldA, Value.cells, bs, Nat.reduceAdd, Nat.reduceLeDiff, Nat.reduceLT] at hcs; subst hcs
 refine RunD.op 26 [true, true, true, false, false, false, false, true, true, true, true, true, false, true, true, true, true, true, true, false, false, false, false, true, true, true, true, true] rfl rfl rfl kr kr (OpJ.callRet C110 rfl rfl (c_has a.code b2 b bm v w m) tks ⟨po, ?_⟩)
 refine RunD.takeB 27 rfl rfl kr B186 rfl rfl fun cs hcs => ?_
 simp only [Tg.c, Ln.c, En.c, Ac.c, Cl.c, Ky.c, Qy.c, bldL, bldA, Value.cells, bs, Nat.reduceAdd, Nat.reduceLeDiff, Nat.reduceLT] at hcs; subst hcs
 refine tk 32 rfl rfl rfl (DetJ.move rfl) ?_
 by_cases hk3 : 6 < a.need.length
 refine RunD.set (congrArg Bo (decide_eq_true (by omega))) ?_
 refine RunD.takeN 33 rfl rfl rfl rfl rfl kr ?_
 refine RunD.takeN 34 rfl rfl rfl rfl rfl kr ?_
 refine RunD.takeN 35 rfl rfl rfl rfl rfl kr ?_
 refine RunD.takeN 36 rfl rfl rfl rfl rfl kr ?_
 refine tk 37 rfl rfl rfl (DetJ.pickT rfl rfl) ?_
 refine RunD.set (v := Bo (decide (6 < a.need.length) || !risB a.need)) (by simp [hk3]) ?_
 refine RunD.takeB 38 rfl rfl kr B186 rfl rfl fun cs hcs => ?_
 simp only [Tg.c, Ln.c, En.c, Ac.c, Cl.c, Ky.c, Qy.c, bldL, bldA, Value.cells, bs, Nat.reduceAdd, Nat.reduceLeDiff, Nat.reduceLT] at hcs; subst hcs
 refine RunD.op 39 [false, false, false, true, true, true, false, false, false, false, false, false, false, false, true, true, false, false, true, true, true, true, true, true, true, true, true] rfl rfl rfl kr kr (OpJ.buildSliceN (cs := (aloneR m a).flatMap Rl.c) inferInstance Z186 rfl (by decide) (by decide) rfl (by rfl) (by rfl) fun b46 => ⟨po, ?_⟩)
 refine RunD.op 40 [false, false, false, true, true, false, true, true, true, true, true, true, true, true] rfl rfl rfl kr kr (OpJ.callRet C111 rfl rfl (c_first (pt b46 (blk ((aloneR m a).flatMap Rl.c) 186)) b46 5 (aloneR m a) Rd.whole (by simp [aloneR])) tks ⟨po, ?_⟩)
 refine tk 41 rfl rfl rfl (DetJ.assign rfl) ?_
 refine kd [4] rfl ?_
 refine Run.ret ?_
 exact ret_one (.tmp rfl .nil) (rfl) gv
 refine RunD.set (congrArg Bo (decide_eq_false (by omega))) ?_
 refine RunD.takeG 33 rfl rfl rfl rfl rfl kr (DetJ.fieldAddr F57_7 rfl) .nil ?_
 first | refine RunD.takeGF 34 rfl rfl rfl rfl kr T55 rfl pk (by rfl) ?_ | refine RunD.takeGO 34 rfl rfl rfl rfl kr T55 rfl pk (by assumption) (by rfl) (by exact fun _ => rfl) ?_
 refine RunD.opG 35 [false, false, false, true, true, true, true, true, true, true, true, true, true, true, false, false, true, true, true, true, true, true, true] rfl rfl rfl rfl rfl kr kr (OpJ.callRet C114 rfl rfl (c_rising R _ _ _ (by assumption) (by omega)) tks ⟨po, ?_⟩)
 refine RunD.takeG 36 rfl rfl rfl rfl rfl kr (DetJ.not rfl) .nil ?_
 refine tk 37 rfl rfl rfl (DetJ.pickF rfl rfl) ?_
 refine RunD.set (v := Bo (decide (6 < a.need.length) || !risB a.need)) (by simp [hk3]) ?_
 refine RunD.takeB 38 rfl rfl kr B186 rfl rfl fun cs hcs => ?_
 simp only [Tg.c, Ln.c, En.c, Ac.c, Cl.c, Ky.c, Qy.c, bldL, bldA, Value.cells, bs, Nat.reduceAdd, Nat.reduceLeDiff, Nat.reduceLT] at hcs; subst hcs
 refine RunD.op 39 [false, false, false, false, false, false, false, false, false, false, true, true, false, false, true, true, true, true, true, true, true] rfl rfl rfl kr kr (OpJ.buildSliceN (cs := (aloneR m a).flatMap Rl.c) inferInstance Z186 rfl (by decide) (by decide) rfl (by rfl) (by rfl) fun b46 => ⟨po, ?_⟩)
 refine RunD.op 40 [true, true, true, true, true, true, true, true, true] rfl rfl rfl kr kr (OpJ.callRet C111 rfl rfl (c_first (pt b46 (blk ((aloneR m a).flatMap Rl.c) 186)) b46 5 (aloneR m a) Rd.whole (by simp [aloneR])) tks ⟨po, ?_⟩)
 refine tk 41 rfl rfl rfl (DetJ.assign rfl) ?_
 refine kd [4] rfl ?_
 refine Run.ret ?_
 exact ret_one (.tmp rfl .nil) (rfl) gv
 refine RunD.set (v := Bo true) (by rw [decide_eq_true (by simpa using hk2)]) ?_
 refine RunD.takeG 17 rfl rfl rfl rfl rfl kr (DetJ.fieldAddr F57_4 rfl) .nil ?_
 first | refine RunD.takeGF 18 rfl rfl rfl rfl kr T9 rfl pk (by rfl) ?_ | refine RunD.takeGO 18 rfl rfl rfl rfl kr T9 rfl pk (by assumption) (by rfl) (by exact fun _ => rfl) ?_
 refine RunD.opG 19 [false, false, false, true, true, true, true, true, false, true, true, true, true, true, true, true, true, true, false, false, true, false, true, true] rfl rfl rfl rfl rfl kr kr (OpJ.callRet C113 rfl rfl (c_Cur _ hc) .nil ⟨po, ?_⟩)
 refine RunD.takeG 20 rfl rfl rfl rfl rfl kr (DetJ.not rfl) .nil ?_
 refine tk 21 rfl rfl rfl (DetJ.pickT rfl rfl) ?_
 refine RunD.set (v := Bo (decide (a.cur ≠ bs0) && !curB a.cur)) (by simp [hk2]) ?_
 refine RunD.takeB 22 rfl rfl kr B186 rfl rfl fun cs hcs => ?_
 simp only [Tg.c, Ln.c, En.c, Ac.c, Cl.c, Ky.c, Qy.c, bldL, bldA, Value.cells, bs, Nat.reduceAdd, Nat.reduceLeDiff, Nat.reduceLT] at hcs; subst hcs
 refine RunD.op 26 [true, true, true, true, true, true, true, true, true, true, true, true, true, true, false, false, false, true, true, true] rfl rfl rfl kr kr (OpJ.callRet C110 rfl rfl (c_has a.code b2 b bm v w m) tks ⟨po, ?_⟩)
 refine RunD.takeB 27 rfl rfl kr B186 rfl rfl fun cs hcs => ?_
 simp only [Tg.c, Ln.c, En.c, Ac.c, Cl.c, Ky.c, Qy.c, bldL, bldA, Value.cells, bs, Nat.reduceAdd, Nat.reduceLeDiff, Nat.reduceLT] at hcs; subst hcs
 refine tk 32 rfl rfl rfl (DetJ.move rfl) ?_
 by_cases hk3 : 6 < a.need.length
 refine RunD.set (congrArg Bo (decide_eq_true (by omega))) ?_
 refine RunD.takeN 33 rfl rfl rfl rfl rfl kr ?_
 refine RunD.takeN 34 rfl rfl rfl rfl rfl kr ?_
 refine RunD.takeN 35 rfl rfl rfl rfl rfl kr ?_
 refine RunD.takeN 36 rfl rfl rfl rfl rfl kr ?_
 refine tk 37 rfl rfl rfl (DetJ.pickT rfl rfl) ?_
 refine RunD.set (v := Bo (decide (6 < a.need.length) || !risB a.need)) (by simp [hk3]) ?_
 refine RunD.takeB 38 rfl rfl kr B186 rfl rfl fun cs hcs => ?_
 simp only [Tg.c, Ln.c, En.c, Ac.c, Cl.c, Ky.c, Qy.c, bldL, bldA, Value.cells, bs, Nat.reduceAdd, Nat.reduceLeDiff, Nat.reduceLT] at hcs; subst hcs
 refine RunD.op 39 [false, false, false, true, true, true, false, false, false, false, false, false, false, false, true, true, false, false, true, true, true, true, true, true, true] rfl rfl rfl kr kr (OpJ.buildSliceN (cs := (aloneR m a).flatMap Rl.c) inferInstance Z186 rfl (by decide) (by decide) rfl (by rfl) (by rfl) fun b46 => ⟨po, ?_⟩)
 refine RunD.op 40 [false, false, false, true, true, false, true, true, true, true, true, true] rfl rfl rfl kr kr (OpJ.callRet C111 rfl rfl (c_first (pt b46 (blk ((aloneR m a).flatMap Rl.c) 186)) b46 5 (aloneR m a) Rd.whole (by simp [aloneR])) tks ⟨po, ?_⟩)
 refine tk 41 rfl rfl rfl (DetJ.assign rfl) ?_
 refine kd [4] rfl ?_
 refine Run.ret ?_
 exact ret_one (.tmp rfl .nil) (rfl) gv
 refine RunD.set (congrArg Bo (decide_eq_false (by omega))) ?_
 refine RunD.takeG 33 rfl rfl rfl rfl rfl kr (DetJ.fieldAddr F57_7 rfl) .nil ?_
 first | refine RunD.takeGF 34 rfl rfl rfl rfl kr T55 rfl pk (by rfl) ?_ | refine RunD.takeGO 34 rfl rfl rfl rfl kr T55 rfl pk (by assumption) (by rfl) (by exact fun _ => rfl) ?_
 refine RunD.opG 35 [false, false, false, true, true, true, true, true, true, true, true, true, true, true, false, false, true, true, true, true, true] rfl rfl rfl rfl rfl kr kr (OpJ.callRet C114 rfl rfl (c_rising R _ _ _ (by assumption) (by omega)) tks ⟨po, ?_⟩)
 refine RunD.takeG 36 rfl rfl rfl rfl rfl kr (DetJ.not rfl) .nil ?_
 refine tk 37 rfl rfl rfl (DetJ.pickF rfl rfl) ?_
 refine RunD.set (v := Bo (decide (6 < a.need.length) || !risB a.need)) (by simp [hk3]) ?_
 refine RunD.takeB 38 rfl rfl kr B186 rfl rfl fun cs hcs => ?_
 simp only [Tg.c, Ln.c, En.c, Ac.c, Cl.c, Ky.c, Qy.c, bldL, bldA, Value.cells, bs, Nat.reduceAdd, Nat.reduceLeDiff, Nat.reduceLT] at hcs; subst hcs
 refine RunD.op 39 [false, false, false, false, false, false, false, false, false, false, true, true, false, false, true, true, true, true, true] rfl rfl rfl kr kr (OpJ.buildSliceN (cs := (aloneR m a).flatMap Rl.c) inferInstance Z186 rfl (by decide) (by decide) rfl (by rfl) (by rfl) fun b46 => ⟨po, ?_⟩)
 refine RunD.op 40 [true, true, true, true, true, true, true] rfl rfl rfl kr kr (OpJ.callRet C111 rfl rfl (c_first (pt b46 (blk ((aloneR m a).flatMap Rl.c) 186)) b46 5 (aloneR m a) Rd.whole (by simp [aloneR])) tks ⟨po, ?_⟩)
 refine tk 41 rfl rfl rfl (DetJ.assign rfl) ?_
 refine kd [4] rfl ?_
 refine Run.ret ?_
 exact ret_one (.tmp rfl .nil) (rfl) gv
theorem c_below (b bm : Nat) (v w : Value) (m : List Ac) (a : Ac) (hl : m.length ≤ 400) : AC Tryz.prog 67 ⟨[.pointer (some ⟨b, 0, none⟩), .agg ⟨a.c⟩]⟩ (stars [pt b (blk [.map (some bm), v, w] 110), amap bm acF acG m]) (Ret (I (belowE m a)) [pt b (blk [.map (some bm), v, w] 110), amap bm acF acG m]) := by
 refine AC.go Tryz.func67 rfl (Nat.le_of_ble_eq_true rfl) fun β => ?_
 refine sr ?_
 refine RunL.op rfl rfl (OpJ.boxA rfl fun b3 => ?_)
 refine asg rfl rfl ?_
 refine kp [0, 3] rfl ?_
 refine Run.seq ?_
 refine sr ?_
 refine sx 3 ?_
 refine kp [0, 3, 9] rfl ?_
 first | refine Run.if rfl (fun h1 => ?_) (fun h1 => ?_) | refine Run.cond rfl (fun h1 => ?_) (fun h1 => ?_)
 refine sr ?_
 refine asg rfl rfl ?_
 refine kp [4] rfl ?_
 refine Run.ret ?_
 exact ret_one (.tmp rfl .nil) (by unfold belowE; rw [if_pos (by simpa using h1)]; rfl) gv
 refine Run.skip ?_
 refine Run.seq ?_
 refine regionD HM ?_
 refine tk 0 rfl rfl rfl (DetJ.move rfl) ?_
 refine tk 1 rfl rfl rfl (DetJ.nilCheck rfl) ?_
 refine tk 2 rfl rfl rfl (DetJ.fieldAddr F110_0 rfl) ?_
 first | refine RunD.takeF 3 rfl rfl kr T107 rfl pk (by rfl) ?_ | refine RunD.takeO 3 rfl rfl kr T107 rfl pk (by assumption) (by rfl) (by exact fun _ => rfl) ?_
 refine tk 4 rfl rfl rfl (DetJ.fieldAddr F57_1 rfl) ?_
 first | refine RunD.takeF 5 rfl rfl kr T9 rfl pk (by rfl) ?_ | refine RunD.takeO 5 rfl rfl kr T9 rfl pk (by assumption) (by rfl) (by exact fun _ => rfl) ?_
 refine RunD.two 6 10 [false, false, false, false, false, true] [true, true, true, true, true, true] rfl rfl rfl rfl rfl rfl kr kr kr (OpJ.lookupA2 inferInstance inferInstance inferInstance rfl rfl pk ⟨po, ?_⟩) (OpJ.alloc Z57 fun b5 => ⟨po, ?_⟩)
 refine tk 7 rfl rfl rfl (DetJ.move rfl) ?_
 refine tk 8 rfl rfl rfl (DetJ.extract rfl rfl) ?_
 refine tk 9 rfl rfl rfl (DetJ.extract rfl rfl) ?_
 refine RunD.op 10 [true, true, true, true] rfl rfl rfl kr kr (OpJ.alloc Z57 fun b5 => ⟨po, ?_⟩)
 refine RunD.op 11 [true, false, false, false] rfl rfl rfl kr kr (OpJ.storeW T57 rfl rfl rfl rfl (by simp [Value.oneCell', Tg.c, Ln.c, En.c, Ac.c, Cl.c, Ky.c, Qy.c, Sb, Iv]) up ⟨po, ?_⟩)
 refine tk 12 rfl rfl rfl (DetJ.assign rfl) ?_
 refine kd [0, 3, 5, 6] rfl ?_
 refine Run.seq ?_
 refine regionD HM ?_
 refine tk 0 rfl rfl rfl (DetJ.move rfl) ?_
 refine tk 1 rfl rfl rfl (DetJ.not rfl) ?_
 refine RunD.takeB 2 rfl rfl kr B186 rfl rfl fun cs hcs => ?_
 simp only [Tg.c, Ln.c, En.c, Ac.c, Cl.c, Ky.c, Qy.c, bldL, bldA, Value.cells, bs, Nat.reduceAdd, Nat.reduceLeDiff, Nat.reduceLT] at hcs; subst hcs
 refine tk 3 rfl rfl rfl (DetJ.fieldAddr F57_2 rfl) ?_
 first | refine RunD.takeF 4 rfl rfl kr T3 rfl pk (by rfl) ?_ | refine RunD.takeO 4 rfl rfl kr T3 rfl pk (by assumption) (by rfl) (by exact fun _ => rfl) ?_
 refine tk 5 rfl rfl rfl (DetJ.fieldAddr F57_2 rfl) ?_
 first | refine RunD.takeF 6 rfl rfl kr T3 rfl pk (by rfl) ?_ | refine RunD.takeO 6 rfl rfl kr T3 rfl pk (by assumption) (by rfl) (by exact fun _ => rfl) ?_
 refine tk 7 rfl rfl rfl (DetJ.neq rfl rfl) ?_
 refine RunD.takeB 8 rfl rfl kr B186 rfl rfl fun cs hcs => ?_
 simp only [Tg.c, Ln.c, En.c, Ac.c, Cl.c, Ky.c, Qy.c, bldL, bldA, Value.cells, bs, Nat.reduceAdd, Nat.reduceLeDiff, Nat.reduceLT] at hcs; subst hcs
 refine tk 9 rfl rfl rfl (DetJ.fieldAddr F57_3 rfl) ?_
 first | refine RunD.takeF 10 rfl rfl kr T4 rfl pk (by rfl) ?_ | refine RunD.takeO 10 rfl rfl kr T4 rfl pk (by assumption) (by rfl) (by exact fun _ => rfl) ?_
 refine RunD.takeB 11 rfl rfl kr B186 rfl rfl fun cs hcs => ?_
 simp only [Tg.c, Ln.c, En.c, Ac.c, Cl.c, Ky.c, Qy.c, bldL, bldA, Value.cells, bs, Nat.reduceAdd, Nat.reduceLeDiff, Nat.reduceLT] at hcs; subst hcs
 refine tk 12 rfl rfl rfl (DetJ.move rfl) ?_
 refine tk 13 rfl rfl rfl (DetJ.fieldAddr F57_0 rfl) ?_
 first | refine RunD.takeF 14 rfl rfl kr T9 rfl pk (by rfl) ?_ | refine RunD.takeO 14 rfl rfl kr T9 rfl pk (by assumption) (by rfl) (by exact fun _ => rfl) ?_
 refine RunD.op 15 [false, false, false, true, true, true, true, true, true, true, true, true, true, true, true] rfl rfl rfl kr kr (OpJ.callRet C115 rfl rfl (c_circular b bm v w m _ (by omega)) tks ⟨po, ?_⟩)
 refine RunD.takeB 16 rfl rfl kr B186 rfl rfl fun cs hcs => ?_
 simp only [Tg.c, Ln.c, En.c, Ac.c, Cl.c, Ky.c, Qy.c, bldL, bldA, Value.cells, bs, Nat.reduceAdd, Nat.reduceLeDiff, Nat.reduceLT] at hcs; subst hcs
 refine RunD.op 17 [false, false, false, false, false, false, false, true, false, true, false, false, false] rfl rfl rfl kr kr (OpJ.buildSliceN (cs := (belowR m a).flatMap Rl.c) inferInstance Z186 rfl (by decide) (by decide) rfl (by rfl) (by rfl) fun b37 => ⟨po, ?_⟩)
 refine RunD.op 18 [true, true] rfl rfl rfl kr kr (OpJ.callRet C111 rfl rfl (c_first (pt b37 (blk ((belowR m a).flatMap Rl.c) 186)) b37 4 (belowR m a) Rd.whole (by simp [belowR])) tks ⟨po, ?_⟩)
 refine tk 19 rfl rfl rfl (DetJ.assign rfl) ?_
 refine kd [4] rfl ?_
 refine Run.ret ?_
 exact ret_one (.tmp rfl .nil) (by unfold belowE; rw [if_neg (by simpa using h1)]; rfl) gv
 refine RunD.op 6 [false, false, false, false, false, true] rfl rfl rfl kr kr (OpJ.lookupA2 inferInstance inferInstance inferInstance rfl rfl pk ⟨po, ?_⟩)
 refine tk 7 rfl rfl rfl (DetJ.move rfl) ?_
 refine tk 8 rfl rfl rfl (DetJ.extract rfl rfl) ?_
 refine tk 9 rfl rfl rfl (DetJ.extract rfl rfl) ?_
 refine RunD.op 11 [true, false, false, false] rfl rfl rfl kr kr (OpJ.storeW T57 rfl rfl rfl rfl (by simp [Value.oneCell', Tg.c, Ln.c, En.c, Ac.c, Cl.c, Ky.c, Qy.c, Sb, Iv]) up ⟨po, ?_⟩)
 refine tk 12 rfl rfl rfl (DetJ.assign rfl) ?_
 refine kd [0, 3, 5, 6] rfl ?_
 refine Run.seq ?_
 refine regionD HM ?_
 refine tk 0 rfl rfl rfl (DetJ.move rfl) ?_
 refine tk 1 rfl rfl rfl (DetJ.not rfl) ?_
 refine RunD.takeB 2 rfl rfl kr B186 rfl rfl fun cs hcs => ?_
 simp only [Tg.c, Ln.c, En.c, Ac.c, Cl.c, Ky.c, Qy.c, bldL, bldA, Value.cells, bs, Nat.reduceAdd, Nat.reduceLeDiff, Nat.reduceLT] at hcs; subst hcs
 refine tk 3 rfl rfl rfl (DetJ.fieldAddr F57_2 rfl) ?_
 first | refine RunD.takeF 4 rfl rfl kr T3 rfl pk (by rfl) ?_ | refine RunD.takeO 4 rfl rfl kr T3 rfl pk (by assumption) (by rfl) (by exact fun _ => rfl) ?_
 refine tk 5 rfl rfl rfl (DetJ.fieldAddr F57_2 rfl) ?_
 first | refine RunD.takeF 6 rfl rfl kr T3 rfl pk (by rfl) ?_ | refine RunD.takeO 6 rfl rfl kr T3 rfl pk (by assumption) (by rfl) (by exact fun _ => rfl) ?_
 refine tk 7 rfl rfl rfl (DetJ.neq rfl rfl) ?_
 refine RunD.takeB 8 rfl rfl kr B186 rfl rfl fun cs hcs => ?_
 simp only [Tg.c, Ln.c, En.c, Ac.c, Cl.c, Ky.c, Qy.c, bldL, bldA, Value.cells, bs, Nat.reduceAdd, Nat.reduceLeDiff, Nat.reduceLT] at hcs; subst hcs
 refine tk 9 rfl rfl rfl (DetJ.fieldAddr F57_3 rfl) ?_
 first | refine RunD.takeF 10 rfl rfl kr T4 rfl pk (by rfl) ?_ | refine RunD.takeO 10 rfl rfl kr T4 rfl pk (by assumption) (by rfl) (by exact fun _ => rfl) ?_
 refine RunD.takeB 11 rfl rfl kr B186 rfl rfl fun cs hcs => ?_
 simp only [Tg.c, Ln.c, En.c, Ac.c, Cl.c, Ky.c, Qy.c, bldL, bldA, Value.cells, bs, Nat.reduceAdd, Nat.reduceLeDiff, Nat.reduceLT] at hcs; subst hcs
 refine tk 12 rfl rfl rfl (DetJ.move rfl) ?_
 refine tk 13 rfl rfl rfl (DetJ.fieldAddr F57_0 rfl) ?_
 first | refine RunD.takeF 14 rfl rfl kr T9 rfl pk (by rfl) ?_ | refine RunD.takeO 14 rfl rfl kr T9 rfl pk (by assumption) (by rfl) (by exact fun _ => rfl) ?_
 refine RunD.op 15 [false, false, false, true, true, true, true, true, true, true, true, true, true, true, true] rfl rfl rfl kr kr (OpJ.callRet C115 rfl rfl (c_circular b bm v w m _ (by omega)) tks ⟨po, ?_⟩)
 refine RunD.takeB 16 rfl rfl kr B186 rfl rfl fun cs hcs => ?_
 simp only [Tg.c, Ln.c, En.c, Ac.c, Cl.c, Ky.c, Qy.c, bldL, bldA, Value.cells, bs, Nat.reduceAdd, Nat.reduceLeDiff, Nat.reduceLT] at hcs; subst hcs
 refine RunD.op 17 [false, false, false, false, false, false, false, true, false, true, false, false, false] rfl rfl rfl kr kr (OpJ.buildSliceN (cs := (belowR m a).flatMap Rl.c) inferInstance Z186 rfl (by decide) (by decide) rfl (by rfl) (by rfl) fun b37 => ⟨po, ?_⟩)
 refine RunD.op 18 [true, true] rfl rfl rfl kr kr (OpJ.callRet C111 rfl rfl (c_first (pt b37 (blk ((belowR m a).flatMap Rl.c) 186)) b37 4 (belowR m a) Rd.whole (by simp [belowR])) tks ⟨po, ?_⟩)
 refine tk 19 rfl rfl rfl (DetJ.assign rfl) ?_
 refine kd [4] rfl ?_
 refine Run.ret ?_
 exact ret_one (.tmp rfl .nil) (by unfold belowE; rw [if_neg (by simpa using h1)]; rfl) gv
end
def lSortRen : Go.Shelf.Ren := { f := fun x => match x with | 190 => 116 | 125 => 153 | 258 => 152 | 128 => 181 | 129 => 182 | 302 => 172 | 303 => 173 | 304 => 174 | 305 => 175 | 306 => 176 | 307 => 177 | 308 => 178 | 309 => 179 | 310 => 180 | 333 => 188 | 329 => 189 | 330 => 190 | 334 => 191 | 335 => 192 | 336 => 193 | 344 => 199 | n => n, t := fun x => match x with | 31 => 55 | 9 => 9 | 3 => 3 | 46 => 210 | 0 => 0 | 51 => 234 | 53 => 207 | 4 => 4 | 183 => 227 | 182 => 226 | 131 => 100 | 5 => 5 | 218 => 238 | 222 => 242 | 228 => 245 | 229 => 75 | n => n, g := fun x => x }
open Go.Shelf Go.Lib in
theorem lSort : Go.Proofs.Lays.n190 Tryz.prog lSortRen :=
  { mixed := by kernel_rfl, f125 := Eq.trans Tryz.func153 (congrArg some (by kernel_rfl)), f128 := Eq.trans Tryz.func181 (congrArg some (by kernel_rfl)), f129 := Eq.trans Tryz.func182 (congrArg some (by kernel_rfl)), f190 := Eq.trans Tryz.func116 (congrArg some (by kernel_rfl)), f258 := Eq.trans Tryz.func152 (congrArg some (by kernel_rfl)), f302 := Eq.trans Tryz.func172 (congrArg some (by kernel_rfl)), f303 := Eq.trans Tryz.func173 (congrArg some (by kernel_rfl)), f304 := Eq.trans Tryz.func174 (congrArg some (by kernel_rfl)), f305 := Eq.trans Tryz.func175 (congrArg some (by kernel_rfl)), f306 := Eq.trans Tryz.func176 (congrArg some (by kernel_rfl)), f307 := Eq.trans Tryz.func177 (congrArg some (by kernel_rfl)), f308 := Eq.trans Tryz.func178 (congrArg some (by kernel_rfl)), f309 := Eq.trans Tryz.func179 (congrArg some (by kernel_rfl)), f310 := Eq.trans Tryz.func180 (congrArg some (by kernel_rfl)), f329 := Eq.trans Tryz.func189 (congrArg some (by kernel_rfl)), f330 := Eq.trans Tryz.func190 (congrArg some (by kernel_rfl)), f333 := Eq.trans Tryz.func188 (congrArg some (by kernel_rfl)), f334 := Eq.trans Tryz.func191 (congrArg some (by kernel_rfl)), f335 := Eq.trans Tryz.func192 (congrArg some (by kernel_rfl)), f336 := Eq.trans Tryz.func193 (congrArg some (by kernel_rfl)), f344 := Eq.trans Tryz.func199 (congrArg some (by kernel_rfl)), t0 := Tryz.underlying0, a0 := Tryz.isAgg0, z0 := Tryz.sizeOf0, v0 := Tryz.zeroValue0, t3 := Tryz.underlying3, a3 := Tryz.isAgg3, z3 := Tryz.sizeOf3, v3 := Tryz.zeroValue3, t4 := Tryz.underlying4, a4 := Tryz.isAgg4, z4 := Tryz.sizeOf4, v4 := Tryz.zeroValue4, t5 := Tryz.underlying5, a5 := Tryz.isAgg5, z5 := Tryz.sizeOf5, v5 := Tryz.zeroValue5, t9 := Tryz.underlying9, a9 := Tryz.isAgg9, z9 := Tryz.sizeOf9, v9 := Tryz.zeroValue9, t31 := Tryz.underlying55, a31 := Tryz.isAgg55, z31 := Tryz.sizeOf55, v31 := Tryz.zeroValue55, t46 := Tryz.underlying210, a46 := Tryz.isAgg210, z46 := Tryz.sizeOf210, v46 := Tryz.zeroValue210, t51 := Tryz.underlying234, a51 := Tryz.isAgg234, z51 := Tryz.sizeOf234, v51 := Tryz.zeroValue234, t53 := Tryz.underlying207, a53 := Tryz.isAgg207, z53 := Tryz.sizeOf207, v53 := Tryz.zeroValue207, t131 := Tryz.underlying100, a131 := Tryz.isAgg100, z131 := Tryz.sizeOf100, v131 := Tryz.zeroValue100, t182 := Tryz.underlying226, a182 := Tryz.isAgg226, z182 := Tryz.sizeOf226, v182 := Tryz.zeroValue226, t183 := Tryz.underlying227, a183 := Tryz.isAgg227, z183 := Tryz.sizeOf227, v183 := Tryz.zeroValue227, t218 := Tryz.underlying238, a218 := Tryz.isAgg238, z218 := Tryz.sizeOf238, v218 := Tryz.zeroValue238, t222 := Tryz.underlying242, a222 := Tryz.isAgg242, z222 := Tryz.sizeOf242, v222 := Tryz.zeroValue242, t228 := Tryz.underlying245, a228 := Tryz.isAgg245, z228 := Tryz.sizeOf245, v228 := Tryz.zeroValue245, t229 := Tryz.underlying75, a229 := Tryz.isAgg75, z229 := Tryz.sizeOf75, v229 := Tryz.zeroValue75 }
section
attribute [local irreducible] OpJ RunL Run RunD DetJ pt own star Rd RdS
end
theorem c_sortStr (oa : Option Addr) (cap : Nat) (ss : List ByteArray) (hlen : ss.length ≤ 1000000) : AC Tryz.prog 116 ⟨[.slice oa ss.length cap]⟩ (stars [own 9 1 oa ss.length cap (ss.flatMap Sb)]) (Ret (.tuple ⟨[]⟩) [own 9 1 oa ss.length cap ((srtS ss).flatMap Sb)]) := ac_sortS lSort 9 oa cap ss hlen
instance mpKid : MPI Tryz.prog 108 9 55 := ⟨by kernel_rfl⟩
instance zvKid : ZVI Tryz.prog 55 (.slice none 0 0) := ⟨by kernel_rfl⟩
section
attribute [local irreducible] OpJ RunL Run RunD DetJ pt own star Rd RdS
theorem c_sort (b bm bk : Nat) (m : List Ac) (hl : m.length ≤ 400) : AC Tryz.prog 68 ⟨[.pointer (some ⟨b, 0, none⟩)]⟩ (stars [pt b (blk [.map (some bm), .map (some bk), .slice none 0 0] 110), amap bm acF acG m, amap bk kdF kdG []]) (Outs (fun _ : Value => True) (fun _ => .tuple ⟨[]⟩) (fun w => [pt b (blk [.map (some bm), .map (some bk), w] 110), amap bm acF acG m])) := by
 have hlf : ([] : List ByteArray).length + leftC m.length #[] ≤ 400 := Nat.le_trans (by rw [List.length_nil, Nat.zero_add]; exact leftC_le) hl
 refine AC.go Tryz.func68 rfl (Nat.le_of_ble_eq_true rfl) fun β => ?_
 refine Run.seq ?_
 refine sr ?_
 refine sx 4 ?_
 refine RunL.ownNil 9 1 ?_
 refine RunL.op rfl rfl (OpJ.range mpAcc rfl pk fun r10 => ?_)
 refine kp [0, 10] rfl ?_
 refine Run.block ?_
 refine Run.weak (L' := [pt r10 (iter bm m.length #[]), amap bm acF acG m, pt b (blk [.map (some bm), .map (some bk), .slice none ([] : List ByteArray).length 0] 110), own 9 1 none ([] : List ByteArray).length 0 (([] : List ByteArray).flatMap Sb), amap bk kdF kdG []]) (fun _ _ h => h) gv ?_
 refine Run.loop (fun mm E L => ∃ (seen : Array Nat) (cs : List ByteArray) (ca : Option Addr) (cc : Nat), mm = leftC m.length seen ∧ cs.length + leftC m.length seen ≤ 400 ∧ E = [(0, .pointer (some ⟨b, 0, none⟩)), (10, .pointer (some ⟨r10, 0, none⟩))] ∧ L = [pt r10 (iter bm m.length seen), amap bm acF acG m, pt b (blk [.map (some bm), .map (some bk), .slice ca cs.length cc] 110), own 9 1 ca cs.length cc (cs.flatMap Sb), amap bk kdF kdG []]) ⟨_, #[], [], none, 0, rfl, hlf, rfl, rfl⟩ ?_
 rintro _ _ _ ⟨seen, cs, ca, cc, rfl, hsc, rfl, rfl⟩
 refine sr ?_
 refine RunL.op rfl rfl (OpJ.next rfl pk (fun s => up) (fun hall => ?_) (fun iN y hy hns => ?_))
 skip
 refine sx 1 ?_
 refine kp [0, 10, 12] rfl ?_
 refine Run.seq ?_
 refine Run.false rfl ?_
 refine Run.exit ?_
 refine sr ?_
 refine sx 4 ?_
 refine RunL.call C116 rfl rfl rfl (c_sortStr ca cc cs (by omega)) tks ?_
 refine kp [0] rfl ?_
 refine sr ?_
 obtain ⟨ss, hss⟩ : ∃ ss, ss = srtS cs := ⟨_, rfl⟩
 have hsl : (srtS cs).length = cs.length := srtS_len cs
 refine RunL.bigNil (kdH 9) ?_
 refine sx 6 ?_
 refine kp [0, 33, 34, 35] rfl ?_
 refine Run.block ?_
 refine Run.weak (L' := [pt b (blk [.map (some bm), .map (some bk), .slice ca cs.length cc] 110), amap bm acF acG m, own 9 1 ca cs.length cc ((srtS cs).flatMap Sb), amap bk kdF kdG [], big (kdH 9) []]) (fun _ _ h => h) gv ?_
 refine Run.loop (fun mm E L => ∃ (i : Nat) (ks : List Kd), mm = cs.length - i ∧ i ≤ cs.length ∧ (∀ x ∈ ks, x.l.length ≤ i) ∧ E = [(0, .pointer (some ⟨b, 0, none⟩)), (33, .slice ca cs.length cc), (34, I cs.length), (35, I i)] ∧ L = [pt b (blk [.map (some bm), .map (some bk), .slice ca cs.length cc] 110), amap bm acF acG m, own 9 1 ca cs.length cc ((srtS cs).flatMap Sb), amap bk kdF kdG ks, big (kdH 9) ks]) ⟨_, 0, [], rfl, Nat.zero_le _, (fun x hx => by cases hx), rfl, rfl⟩ ?_
 rintro _ _ _ ⟨i, ks, rfl, hi, hkl, rfl, rfl⟩
 refine sr ?_
 refine sx 1 ?_
 refine kp [0, 33, 34, 35, 36] rfl ?_
 refine Run.seq ?_
 first | refine Run.if rfl (fun h1 => ?_) (fun h1 => ?_) | refine Run.cond rfl (fun h1 => ?_) (fun h1 => ?_)
 refine Run.skip ?_
 refine Run.seq ?_
 refine Run.block ?_
 refine sr ?_
 obtain ⟨x, hx⟩ := get_ex (xs := srtS cs) (i := i) (by omega)
 refine RunL.ownAddr pk (flat_ne (k := 1) (fun _ => rfl) (by decide) hx) fun b9 e hcap => ?_
 subst e
 refine sx 1 ?_
 refine RunL.op rfl rfl (OpJ.load1 inferInstance rfl pk (own.el (enc := Sb) hx (by decide) (fun _ => rfl)) ?_)
 refine asg rfl rfl ?_
 refine kp [0, 4, 33, 34, 35] rfl ?_
 refine sr ?_
 refine sx 5 ?_
 refine RunL.op rfl rfl (OpJ.lookupA1 inferInstance inferInstance inferInstance rfl rfl pk ?_)
 refine sx 1 ?_
 refine RunL.set (v := St (parOf m x)) (congrArg St par_lk) ?_
 refine RunL.kOut (parOf m x) pk ?_
 have hkd := kd_le (p := parOf m x) hkl
 refine asg rfl rfl ?_
 refine kp [0, 4, 5, 33, 34, 35] rfl ?_
 refine regionD HM ?_
 refine tk 0 rfl rfl rfl (DetJ.move rfl) ?_
 refine tk 1 rfl rfl rfl (DetJ.nilCheck rfl) ?_
 refine tk 2 rfl rfl rfl (DetJ.fieldAddr F110_1 rfl) ?_
 first | refine RunD.takeF 3 rfl rfl kr T108 rfl pk (by rfl) ?_ | refine RunD.takeO 3 rfl rfl kr T108 rfl pk (by assumption) (by rfl) (by exact fun _ => rfl) ?_
 refine tk 4 rfl rfl rfl (DetJ.move rfl) ?_
 refine tk 5 rfl rfl rfl (DetJ.move rfl) ?_
 refine tk 6 rfl rfl rfl (DetJ.nilCheck rfl) ?_
 refine tk 7 rfl rfl rfl (DetJ.fieldAddr F110_1 rfl) ?_
 first | refine RunD.takeF 8 rfl rfl kr T108 rfl pk (by rfl) ?_ | refine RunD.takeO 8 rfl rfl kr T108 rfl pk (by assumption) (by rfl) (by exact fun _ => rfl) ?_
 refine tk 9 rfl rfl rfl (DetJ.move rfl) ?_
 refine tk 11 rfl rfl rfl (DetJ.move rfl) ?_
 refine RunD.two 10 12 [true, false, false, false, false, true, true, true, true, true, true] [false, true, true, true, true, true, true, true, true, true, true] rfl rfl rfl rfl rfl rfl kr kr kr (OpJ.lookupK inferInstance inferInstance inferInstance rfl rfl pk ⟨po, ?_⟩) (OpJ.buildSlice1 S55 rfl rfl rfl (by decide) (by decide) Z9 rfl fun b58 => ⟨po, ?_⟩)
 refine RunD.op 12 [false, true, true, true, true, true, true] rfl rfl rfl kr kr (OpJ.buildSlice1 S55 rfl rfl rfl (by decide) (by decide) Z9 rfl fun b58 => ⟨po, ?_⟩)
 refine RunD.op 13 [true, true, true, true, true, true] rfl rfl rfl kr kr (OpJ.append1 x S55 M9 rfl rfl pk pk rfl rfl (by simp [Value.oneCell', Tg.c, Ln.c, En.c, Ac.c, Cl.c, Ky.c, Qy.c, Sb, Iv]) rfl (by omega) (by omega) fun a59 c59 => ⟨po, ?_⟩)
 refine RunD.op 14 [false, false, false, false, false, false] rfl rfl rfl kr kr (OpJ.mapUpdate (⟨parOf m x, a59, c59, (kdAt ks (parOf m x)).l ++ [x]⟩ : Kd) keyStr inferInstance inferInstance rfl rfl rfl up ⟨po, ?_⟩)
 refine kd [0, 33, 34, 35] rfl ?_
 refine Run.region ?_
 refine RunL.kIn 9 ks ⟨parOf m x, a59, c59, (kdAt ks (parOf m x)).l ++ [x]⟩ pk pk ?_
 refine sx 2 ?_
 refine RunL.weak (L' := [pt b (blk [.map (some bm), .map (some bk), .slice (some ⟨b9, 0, none⟩) cs.length cc] 110), amap bm acF acG m, own 9 1 (some ⟨b9, 0, none⟩) cs.length cc ((srtS cs).flatMap Sb), amap bk kdF kdG (kSet Kd.code ⟨parOf m x, a59, c59, (kdAt ks (parOf m x)).l ++ [x]⟩ ks), big (kdH 9) (kSet Kd.code ⟨parOf m x, a59, c59, (kdAt ks (parOf m x)).l ++ [x]⟩ ks)]) (Keep.sub (kt (ks := [0, 33, 34, 35]) rfl)) gv (RunL.nil ?_)
 exact ⟨_, by omega, i + 1, _, rfl, by omega, kd_set (fun z hz => by have := hkl z hz; omega) (by rw [List.length_append, List.length_singleton]; omega), rfl, rfl⟩
 refine RunD.op 10 [false, false, false, false, true, true, true, true, true, true] rfl rfl rfl kr kr (OpJ.lookupK inferInstance inferInstance inferInstance rfl rfl pk ⟨po, ?_⟩)
 refine RunD.op 13 [true, true, true, true, true, true] rfl rfl rfl kr kr (OpJ.append1 x S55 M9 rfl rfl pk pk rfl rfl (by simp [Value.oneCell', Tg.c, Ln.c, En.c, Ac.c, Cl.c, Ky.c, Qy.c, Sb, Iv]) rfl (by omega) (by omega) fun a59 c59 => ⟨po, ?_⟩)
 refine RunD.op 14 [false, false, false, false, false, false] rfl rfl rfl kr kr (OpJ.mapUpdate (⟨parOf m x, a59, c59, (kdAt ks (parOf m x)).l ++ [x]⟩ : Kd) keyStr inferInstance inferInstance rfl rfl rfl up ⟨po, ?_⟩)
 refine kd [0, 33, 34, 35] rfl ?_
 refine Run.region ?_
 refine RunL.kIn 9 ks ⟨parOf m x, a59, c59, (kdAt ks (parOf m x)).l ++ [x]⟩ pk pk ?_
 refine sx 2 ?_
 refine RunL.weak (L' := [pt b (blk [.map (some bm), .map (some bk), .slice (some ⟨b9, 0, none⟩) cs.length cc] 110), amap bm acF acG m, own 9 1 (some ⟨b9, 0, none⟩) cs.length cc ((srtS cs).flatMap Sb), amap bk kdF kdG (kSet Kd.code ⟨parOf m x, a59, c59, (kdAt ks (parOf m x)).l ++ [x]⟩ ks), big (kdH 9) (kSet Kd.code ⟨parOf m x, a59, c59, (kdAt ks (parOf m x)).l ++ [x]⟩ ks)]) (Keep.sub (kt (ks := [0, 33, 34, 35]) rfl)) gv (RunL.nil ?_)
 exact ⟨_, by omega, i + 1, _, rfl, by omega, kd_set (fun z hz => by have := hkl z hz; omega) (by rw [List.length_append, List.length_singleton]; omega), rfl, rfl⟩
 refine Run.exit ?_
 exact ret_out (.slice ca cs.length cc) .nil trivial rfl gv
 refine sx 1 ?_
 refine kp [0, 10, 12] rfl ?_
 refine Run.seq ?_
 refine Run.true rfl ?_
 refine Run.skip ?_
 refine Run.block ?_
 refine sr ?_
 refine RunL.op rfl rfl (OpJ.entry rfl pk pk hy ?_)
 refine sx 2 ?_
 refine kp [0, 2, 10] rfl ?_
 refine Run.region ?_
 refine sx 6 ?_
 refine RunL.op rfl rfl (OpJ.buildSlice1 S55 rfl rfl rfl (by decide) (by decide) Z9 rfl fun b21 => ?_)
 refine RunL.op rfl rfl (OpJ.append1 y.code S55 M9 rfl rfl pk pk rfl rfl (by simp [Value.oneCell', Tg.c, Ln.c, En.c, Ac.c, Cl.c, Ky.c, Qy.c, Sb, Iv]) rfl (by omega) (by omega) fun a22 c22 => ?_)
 refine sx 3 ?_
 have hlp := leftC_push (List.getElem?_eq_some_iff.1 hy).1 hns
 refine RunL.weak (L' := [pt r10 (iter bm m.length (seen.push iN)), amap bm acF acG m, pt b (blk [.map (some bm), .map (some bk), .slice a22 (cs ++ [y.code]).length c22] 110), own 9 1 a22 (cs ++ [y.code]).length c22 ((cs ++ [y.code]).flatMap Sb), amap bk kdF kdG []]) (Keep.sub (kt (ks := [0, 10]) rfl)) gv (RunL.nil ?_)
 exact ⟨_, hlp, seen.push iN, cs ++ [y.code], a22, c22, rfl, (by rw [List.length_append, List.length_singleton]; omega), rfl, rfl⟩
theorem c_New (R : HP) (oa : Option Addr) (cap : Nat) (xs : List Ac) (hR : RdS R oa (xs.flatMap Ac.c)) (hrd : ∀ a ∈ xs, a.rd R) (hl : xs.length ≤ 140737488355328) : AC Tryz.prog 31 ⟨[.slice oa xs.length cap]⟩ (stars [R]) (Outs (fun y : Chv × Int × Int => chartB xs = true → y.1.m.map Ac.st = xs.map Ac.st) (fun y => if chartB xs = true then .tuple ⟨[.pointer (some ⟨y.1.b, 0, none⟩), I 0, I 0]⟩ else .tuple ⟨[.pointer none, I y.2.1, I y.2.2]⟩) (fun y => if chartB xs = true then [pt y.1.b (blk [.map (some y.1.bm), y.1.v, y.1.w] 110), amap y.1.bm acF acG y.1.m, big (ndH 9) y.1.m, R] else [R])) := by
 refine AC.go Tryz.func31 rfl (Nat.le_of_ble_eq_true rfl) fun β => ?_
 refine sr ?_
 refine sx 3 ?_
 refine kp [0] rfl ?_
 refine Run.scope ?_
 refine Run.seq ?_
 refine sr ?_
 refine sx 3 ?_
 refine kp [0, 11] rfl ?_
 first | refine Run.if rfl (fun h1 => ?_) (fun h1 => ?_) | refine Run.cond rfl (fun h1 => ?_) (fun h1 => ?_)
 refine sr ?_
 refine sx 3 ?_
 refine kp [2, 3, 4] rfl ?_
 refine Run.ret ?_
 have hc : ¬ chartB xs = true := fun h => by { have := (chart_iff.1 h).1; omega }
 exact ret_out ((⟨0, 0, I 0, I 0, []⟩ : Chv), 0, 9) (.tmp rfl (.tmp rfl (.tmp rfl .nil))) (fun h => absurd h hc) (by simp only [if_neg hc]; rfl) (by simp only [if_neg hc]; exact gv)
 refine Run.skip ?_
 refine sr ?_
 refine RunL.op rfl rfl (OpJ.makeMap fun bm => ?_)
 refine RunL.op rfl rfl (OpJ.makeMap fun bk => ?_)
 refine sx 1 ?_
 refine RunL.op rfl rfl (OpJ.boxA rfl fun b15 => ?_)
 refine RunL.bigNil (ndH 9) ?_
 refine asg rfl rfl ?_
 refine kp [0, 2] rfl ?_
 refine Run.seq ?_
 refine Run.label ?_
 refine Run.seq ?_
 refine Run.block ?_
 refine Run.weak (L' := [pt b15 (blk [.map (some bm), .map (some bk), .slice none 0 0] 110), amap bm acF acG [], big (ndH 9) [], amap bk kdF kdG [], R]) (fun _ _ h => h) gv ?_
 refine Run.loop (fun mm E L => mm = 0 ∧ E = [(0, .slice oa xs.length cap), (2, .pointer (some ⟨b15, 0, none⟩))] ∧ L = [pt b15 (blk [.map (some bm), .map (some bk), .slice none 0 0] 110), amap bm acF acG [], big (ndH 9) [], amap bk kdF kdG [], R]) ⟨_, rfl, rfl, rfl⟩ ?_
 rintro _ _ _ ⟨rfl, rfl, rfl⟩
 refine Run.block ?_
 refine Run.seq ?_
 refine sr ?_
 refine sx 3 ?_
 refine kp [0, 2, 16, 17, 18] rfl ?_
 refine Run.block ?_
 refine Run.loop (fun mm E L => ∃ (i : Nat) (m : List Ac), mm = xs.length - i ∧ i ≤ xs.length ∧ m.map Ac.st = (xs.take i).map Ac.st ∧ aloneTo xs i ∧ E = [(0, .slice oa xs.length cap), (2, .pointer (some ⟨b15, 0, none⟩)), (16, .slice oa xs.length cap), (17, I xs.length), (18, I i)] ∧ L = [pt b15 (blk [.map (some bm), .map (some bk), .slice none 0 0] 110), amap bm acF acG m, big (ndH 9) m, amap bk kdF kdG [], R]) ⟨_, 0, [], rfl, Nat.zero_le _, rfl, (fun j x h => by omega), rfl, rfl⟩ ?_
 rintro _ _ _ ⟨i, m, rfl, hi, hm, hI0, rfl, rfl⟩
 refine sr ?_
 refine sx 1 ?_
 refine kp [0, 2, 16, 17, 18, 19] rfl ?_
 refine Run.seq ?_
 first | refine Run.if rfl (fun h2 => ?_) (fun h2 => ?_) | refine Run.cond rfl (fun h2 => ?_) (fun h2 => ?_)
 refine Run.skip ?_
 refine Run.seq ?_
 refine Run.block ?_
 refine sr ?_
 obtain ⟨a, hx⟩ := get_ex (xs := xs) (i := i) (by omega)
 have har := hrd a (List.mem_of_getElem? hx)
 refine RunL.rdOpen pk hR (flat_ne (k := 8) (fun _ => rfl) (by decide) hx) fun bx ox ebx hrdx => ?_
 rw [ebx]
 refine sx 2 ?_
 refine RunL.op rfl rfl (OpJ.loadA inferInstance rfl pk (hrdx.elem (fun _ => rfl) hx) rfl ?_)
 refine RunL.op rfl rfl (OpJ.alloc Z57 fun b6 => ?_)
 refine asg rfl rfl ?_
 refine RunL.op rfl rfl (OpJ.storeW T57 rfl rfl rfl rfl (by simp [Value.oneCell', Tg.c, Ln.c, En.c, Ac.c, Cl.c, Ky.c, Qy.c, Sb, Iv]) up ?_)
 refine kp [0, 2, 5, 6, 16, 17, 18] rfl ?_
 refine Run.seq ?_
 refine sr ?_
 refine sx 3 ?_
 refine RunL.call C66 rfl rfl rfl (c_alone b15 bm (.map (some bk)) (.slice none 0 0) m a R har.1 har.2.1 har.2.2) tks ?_
 refine sx 2 ?_
 refine kp [0, 2, 3, 4, 6, 16, 17, 18] rfl ?_
 refine sr ?_
 refine sx 2 ?_
 refine kp [0, 2, 3, 4, 6, 16, 17, 18, 28] rfl ?_
 first | refine Run.if rfl (fun h3 => ?_) (fun h3 => ?_) | refine Run.cond rfl (fun h3 => ?_) (fun h3 => ?_)
 refine Run.exit ?_
 refine sr ?_
 refine sx 5 ?_
 refine kp [2, 3, 4] rfl ?_
 refine Run.ret ?_
 have hc := chart_alone hm hx (by simpa using h3)
 exact ret_out ((⟨0, 0, I 0, I 0, []⟩ : Chv), (i : Int), aloneE m a) (.tmp rfl (.tmp rfl (.tmp rfl .nil))) (fun h => absurd h hc) (by simp only [if_neg hc]; rfl) (by simp only [if_neg hc]; exact gv)
 refine Run.skip ?_
 refine regionD HM ?_
 have ha0 : aloneE m a = 0 := by simpa using h3
 have hal := alone_len ha0
 refine tk 0 rfl rfl rfl (DetJ.move rfl) ?_
 refine tk 1 rfl rfl rfl (DetJ.nilCheck rfl) ?_
 refine tk 2 rfl rfl rfl (DetJ.fieldAddr F110_0 rfl) ?_
 first | refine RunD.takeF 3 rfl rfl kr T107 rfl pk (by rfl) ?_ | refine RunD.takeO 3 rfl rfl kr T107 rfl pk (by assumption) (by rfl) (by exact fun _ => rfl) ?_
 refine tk 4 rfl rfl rfl (DetJ.fieldAddr F57_0 rfl) ?_
 first | refine RunD.takeF 5 rfl rfl kr T9 rfl pk (by rfl) ?_ | refine RunD.takeO 5 rfl rfl kr T9 rfl pk (by assumption) (by rfl) (by exact fun _ => rfl) ?_
 first | refine RunD.takeW 6 rfl rfl kr T57 rfl pk (by rfl) ?_ | refine RunD.takeP 6 rfl rfl kr T57 rfl pk (by simp) ?_ | refine RunD.takeE 6 rfl rfl kr T57 rfl pk (by assumption) (by exact fun _ => rfl) rfl (by decide) ?_
 refine RunD.op 7 [false, true, true, true, true, true, true] rfl rfl rfl kr kr (OpJ.callOuts C53 rfl rfl (c_copied a R har.1 har.2.1 (by omega)) tks fun ⟨na, nc⟩ _ => ⟨po, ?_⟩)
 refine RunD.op 8 [false, false, false, false, false, false] rfl rfl rfl kr kr (OpJ.mapUpdate (a.put (na, nc)) keyStr mpAcc inferInstance rfl rfl rfl up ⟨po, ?_⟩)
 refine kd [0, 2, 16, 17, 18] rfl ?_
 refine Run.region ?_
 rw [show kSet Ac.code (a.put (na, nc)) m = m ++ [a.put (na, nc)] from kSet_new (alone_new ha0)]
 refine RunL.bigApp (ndH 9) m (a.put (na, nc)) pk pk ?_
 refine sx 2 ?_
 refine RunL.weak (L' := [pt b15 (blk [.map (some bm), .map (some bk), .slice none 0 0] 110), amap bm acF acG (m ++ [a.put (na, nc)]), big (ndH 9) (m ++ [a.put (na, nc)]), amap bk kdF kdG [], R]) (Keep.sub (kt (ks := [0, 2, 16, 17, 18]) rfl)) gv (RunL.nil ?_)
 exact ⟨_, by omega, i + 1, m ++ [a.put (na, nc)], rfl, by omega, take_st hm hx rfl, hI0.step hm hx ha0, rfl, rfl⟩
 refine Run.exit ?_
 refine Run.seq ?_
 refine sr ?_
 refine sx 3 ?_
 refine kp [2, 38, 39, 40] rfl ?_
 refine Run.block ?_
 obtain rfl : i = xs.length := by omega
 rw [List.take_length] at hm
 have hml := st_len hm
 refine Run.loop (fun mm E L => ∃ (i : Nat), mm = xs.length - i ∧ i ≤ xs.length ∧ belowTo xs i ∧ E = [(2, .pointer (some ⟨b15, 0, none⟩)), (38, .slice oa xs.length cap), (39, I xs.length), (40, I i)] ∧ L = [pt b15 (blk [.map (some bm), .map (some bk), .slice none 0 0] 110), amap bm acF acG m, big (ndH 9) m, amap bk kdF kdG [], R]) ⟨_, 0, rfl, Nat.zero_le _, (fun j x h => by omega), rfl, rfl⟩ ?_
 rintro _ _ _ ⟨i, rfl, hi, hI1, rfl, rfl⟩
 refine sr ?_
 refine sx 1 ?_
 refine kp [2, 38, 39, 40, 41] rfl ?_
 refine Run.seq ?_
 first | refine Run.if rfl (fun h4 => ?_) (fun h4 => ?_) | refine Run.cond rfl (fun h4 => ?_) (fun h4 => ?_)
 refine Run.skip ?_
 refine Run.seq ?_
 refine Run.block ?_
 refine sr ?_
 obtain ⟨a, hx⟩ := get_ex (xs := xs) (i := i) (by omega)
 have har := hrd a (List.mem_of_getElem? hx)
 refine RunL.rdOpen pk hR (flat_ne (k := 8) (fun _ => rfl) (by decide) hx) fun bx ox ebx hrdx => ?_
 rw [ebx]
 refine sx 2 ?_
 refine RunL.op rfl rfl (OpJ.loadA inferInstance rfl pk (hrdx.elem (fun _ => rfl) hx) rfl ?_)
 refine RunL.op rfl rfl (OpJ.alloc Z57 fun b8 => ?_)
 refine asg rfl rfl ?_
 refine RunL.op rfl rfl (OpJ.storeW T57 rfl rfl rfl rfl (by simp [Value.oneCell', Tg.c, Ln.c, En.c, Ac.c, Cl.c, Ky.c, Qy.c, Sb, Iv]) up ?_)
 refine kp [2, 7, 8, 38, 39, 40] rfl ?_
 refine sr ?_
 refine sx 3 ?_
 refine RunL.call C67 rfl rfl rfl (c_below b15 bm (.map (some bk)) (.slice none 0 0) m a (by omega)) tks ?_
 refine sx 2 ?_
 refine kp [2, 3, 4, 38, 39, 40] rfl ?_
 refine sr ?_
 refine sx 2 ?_
 refine kp [2, 3, 4, 38, 39, 40, 50] rfl ?_
 first | refine Run.if rfl (fun h5 => ?_) (fun h5 => ?_) | refine Run.cond rfl (fun h5 => ?_) (fun h5 => ?_)
 refine Run.exit ?_
 refine sr ?_
 refine sx 5 ?_
 refine kp [2, 3, 4] rfl ?_
 refine Run.ret ?_
 have hc := chart_below hm hx (by simpa using h5)
 exact ret_out ((⟨0, 0, I 0, I 0, []⟩ : Chv), (i : Int), belowE m a) (.tmp rfl (.tmp rfl (.tmp rfl .nil))) (fun h => absurd h hc) (by simp only [if_neg hc]; rfl) (by simp only [if_neg hc]; exact gv)
 refine Run.skip ?_
 refine Run.region ?_
 refine sx 2 ?_
 exact RunL.next (Keep.sub (kt (ks := [2, 38, 39, 40]) rfl)) _ ⟨_, by omega, i + 1, rfl, by omega, hI1.step hm hx (by simpa using h5), rfl, rfl⟩ gv
 refine Run.exit ?_
 refine sr ?_
 refine mvo rfl rfl ?_
 refine RunL.callX C68 rfl rfl rfl (c_sort b15 bm bk m (by omega)) tks fun w _ => ?_
 refine kp [2] rfl ?_
 refine sr ?_
 refine sx 4 ?_
 refine kp [2, 3, 4] rfl ?_
 refine Run.ret ?_
 have hc := chart_good (xs := xs) (by omega) hI0 (by obtain rfl : i = xs.length := (by omega); exact hI1)
 exact ret_out ((⟨b15, bm, .map (some bk), w, m⟩ : Chv), 0, 0) (.tmp rfl (.tmp rfl (.tmp rfl .nil))) (fun _ => hm) (by simp only [if_pos hc]; rfl) (by simp only [if_pos hc]; exact gv)
theorem c_is (n : Int) : AC Tryz.prog 143 ⟨[I n]⟩ (stars []) (Ret (Bo (inB n 0 109572)) []) := by
 refine AC.go Tryz.func143 rfl (Nat.le_of_ble_eq_true rfl) fun β => ?_
 refine sr ?_
 refine asg rfl rfl ?_
 refine kp [0] rfl ?_
 refine sr ?_
 refine sx 3 ?_
 first | refine RunL.splitP (t := 5) rfl (fun g1 => ?_) (fun g1 => ?_) | refine RunL.split (t := 5) rfl (fun g1 => ?_) (fun g1 => ?_)
 refine sx 4 ?_
 refine kp [2] rfl ?_
 refine Run.ret ?_
 exact ret_one (.tmp rfl .nil) (by first | (simp [tup, inB,  *]; done) | (exfalso; omega)) gv
 refine sx 4 ?_
 refine kp [2] rfl ?_
 refine Run.ret ?_
 exact ret_one (.tmp rfl .nil) (by first | (simp [tup, inB,  *]; done) | (exfalso; omega)) gv
theorem c_Leap (y : Int) : AC Tryz.prog 144 ⟨[I y]⟩ (stars []) (Ret (Bo (leapB y)) []) := by
 refine AC.go Tryz.func144 rfl (Nat.le_of_ble_eq_true rfl) fun β => ?_
 refine sr ?_
 refine asg rfl rfl ?_
 refine kp [0] rfl ?_
 refine sr ?_
 refine sx 4 ?_
 first | refine RunL.splitP (t := 6) rfl (fun g1 => ?_) (fun g1 => ?_) | refine RunL.split (t := 6) rfl (fun g1 => ?_) (fun g1 => ?_)
 refine sx 5 ?_
 first | refine RunL.splitP (t := 11) rfl (fun g2 => ?_) (fun g2 => ?_) | refine RunL.split (t := 11) rfl (fun g2 => ?_) (fun g2 => ?_)
 refine sx 5 ?_
 refine kp [2] rfl ?_
 refine Run.ret ?_
 exact ret_one (.tmp rfl .nil) (by first | (simp [tup, leapB,  *]; done) | (exfalso; omega)) gv
 refine sx 5 ?_
 refine kp [2] rfl ?_
 refine Run.ret ?_
 exact ret_one (.tmp rfl .nil) (by first | (simp [tup, leapB,  *]; done) | (exfalso; omega)) gv
 refine sx 10 ?_
 refine kp [2] rfl ?_
 refine Run.ret ?_
 exact ret_one (.tmp rfl .nil) (by first | (simp [tup, leapB,  *]; done) | (exfalso; omega)) gv
theorem c_Length (y m : Int) (R : HP) (hR : Rd R ⟨0, 0, none⟩ lensC) : AC Tryz.prog 91 ⟨[I y, I m]⟩ (stars [R]) (Ret (I (lenM (leapB y) m)) [R]) := by
 refine AC.go Tryz.func91 rfl (Nat.le_of_ble_eq_true rfl) fun β => ?_
 refine sr ?_
 refine asg rfl rfl ?_
 refine kp [0, 1] rfl ?_
 refine Run.seq ?_
 refine Run.block ?_
 refine sr ?_
 refine sx 3 ?_
 first | refine RunL.splitP (t := 8) rfl (fun g1 => ?_) (fun g1 => ?_) | refine RunL.split (t := 8) rfl (fun g1 => ?_) (fun g1 => ?_)
 refine sx 4 ?_
 refine kp [0, 1, 5] rfl ?_
 refine Run.true rfl ?_
 refine sr ?_
 refine asg rfl rfl ?_
 refine kp [4] rfl ?_
 refine Run.ret ?_
 exact ret_one (.tmp rfl .nil) (congrArg I (show _ = _ by rw [lenM]; simp [*]; try omega)) gv
 refine sx 4 ?_
 refine kp [0, 1, 5] rfl ?_
 first | refine Run.if rfl (fun h2 => ?_) (fun h2 => ?_) | refine Run.cond rfl (fun h2 => ?_) (fun h2 => ?_)
 refine sr ?_
 refine asg rfl rfl ?_
 refine kp [4] rfl ?_
 refine Run.ret ?_
 exact ret_one (.tmp rfl .nil) (congrArg I (show _ = _ by rw [lenM]; simp [*]; try omega)) gv
 refine sr ?_
 refine sx 3 ?_
 first | refine RunL.splitP (t := 15) rfl (fun g3 => ?_) (fun g3 => ?_) | refine RunL.split (t := 15) rfl (fun g3 => ?_) (fun g3 => ?_)
 refine sx 1 ?_
 refine RunL.callG C144 rfl rfl rfl rfl rfl (c_Leap _) .nil ?_
 refine sx 2 ?_
 refine kp [1, 12] rfl ?_
 first | refine Run.if rfl (fun h4 => ?_) (fun h4 => ?_) | refine Run.cond rfl (fun h4 => ?_) (fun h4 => ?_)
 refine sr ?_
 refine asg rfl rfl ?_
 refine kp [4] rfl ?_
 refine Run.ret ?_
 exact ret_one (.tmp rfl .nil) (congrArg I (show _ = _ by rw [lenM]; simp [*]; try omega)) gv
 refine Run.skip ?_
 refine sr ?_
 refine sx 3 ?_
 refine RunL.op rfl rfl (OpJ.load1 inferInstance rfl pk (hR.fld (lens_get (m := m) (by omega) (by omega))) ?_)
 refine asg rfl rfl ?_
 refine kp [4] rfl ?_
 refine Run.ret ?_
 exact ret_one (.tmp rfl .nil) (congrArg I (show _ = _ by rw [lenM]; simp [*]; try omega)) gv
 refine sx 4 ?_
 refine kp [1, 12] rfl ?_
 refine Run.false rfl ?_
 refine Run.skip ?_
 refine sr ?_
 refine sx 3 ?_
 refine RunL.op rfl rfl (OpJ.load1 inferInstance rfl pk (hR.fld (lens_get (m := m) (by omega) (by omega))) ?_)
 refine asg rfl rfl ?_
 refine kp [4] rfl ?_
 refine Run.ret ?_
 exact ret_one (.tmp rfl .nil) (congrArg I (show _ = _ by rw [lenM]; simp [*]; try omega)) gv
theorem c_before (y : Int) (h1 : 1900 ≤ y) (h2 : y ≤ 2200) : AC Tryz.prog 142 ⟨[I y]⟩ (stars []) (Ret (I (beforeF y)) []) := by
 refine AC.go Tryz.func142 rfl (Nat.le_of_ble_eq_true rfl) fun β => ?_
 refine sr ?_
 refine asg rfl rfl ?_
 refine kp [0] rfl ?_
 refine sr ?_
 refine mvo rfl rfl ?_
 refine RunL.op rfl rfl (OpJ.sub rfl rfl ?_)
 refine asg rfl rfl ?_
 refine kp [0, 3] rfl ?_
 refine sr ?_
 refine sx 4 ?_
 refine RunL.op rfl rfl (OpJ.sub rfl rfl ?_)
 refine sx 2 ?_
 refine RunL.op rfl rfl (OpJ.add rfl rfl ?_)
 refine RunL.op rfl rfl (OpJ.sub rfl rfl ?_)
 refine RunL.op rfl rfl (OpJ.add rfl rfl ?_)
 refine RunL.op rfl rfl (OpJ.sub rfl rfl ?_)
 refine asg rfl rfl ?_
 refine kp [0, 4] rfl ?_
 refine sr ?_
 refine mvo rfl rfl ?_
 refine RunL.op rfl rfl (OpJ.sub rfl rfl ?_)
 refine sx 2 ?_
 refine RunL.op rfl rfl (OpJ.add rfl rfl ?_)
 refine asg rfl rfl ?_
 refine kp [2] rfl ?_
 refine Run.ret ?_
 exact ret_one (.tmp rfl .nil) (congrArg I (before_code h1 h2)) gv
theorem c_Date (n : Int) (R : HP) (hR : Rd R ⟨0, 0, none⟩ lensC) : AC Tryz.prog 90 ⟨[I n]⟩ (stars [R]) (Outs (fun x : Int × Int × Int => inB n 0 109572 = true → ofB x.1 x.2.1 x.2.2 = true ∧ dayF x.1 x.2.1 x.2.2 = n) (fun x => .tuple ⟨[.agg ⟨[I x.1, I x.2.1, I x.2.2]⟩, I (if inB n 0 109572 = true then 0 else 11)]⟩) (fun _ => [R])) := by
 refine AC.go Tryz.func90 rfl (Nat.le_of_ble_eq_true rfl) fun β => ?_
 refine sr ?_
 refine RunL.op rfl rfl (OpJ.alloc Z157 fun b2 => ?_)
 refine asg rfl rfl ?_
 refine kp [0, 2] rfl ?_
 refine Run.seq ?_
 refine sr ?_
 refine mvo rfl rfl ?_
 refine RunL.call C143 rfl rfl rfl (c_is _) .nil ?_
 refine RunL.op rfl rfl (OpJ.not rfl ?_)
 refine kp [0, 2, 6] rfl ?_
 first | refine Run.if rfl (fun h1 => ?_) (fun h1 => ?_) | refine Run.cond rfl (fun h1 => ?_) (fun h1 => ?_)
 refine sr ?_
 refine sx 1 ?_
 refine RunL.op rfl rfl (OpJ.storeW T157 rfl rfl rfl rfl (by simp [Value.oneCell', Tg.c, Ln.c, En.c, Ac.c, Cl.c, Ky.c, Qy.c, Sb, Iv]) up ?_)
 refine asg rfl rfl ?_
 refine kp [2, 3] rfl ?_
 refine Run.ret ?_
 exact ret_out (0, 0, 0) (.cellA T157 rfl pk (by rfl) (.tmp rfl .nil)) (fun h => by simp_all) (by rw [if_neg (by simpa using h1)]; rfl) gv
 refine Run.skip ?_
 refine sr ?_
 have hn := inB_iff.1 (show inB n 0 109572 = true by simpa using h1)
 have hfst := before_first hn.1 hn.2
 refine sx 2 ?_
 refine RunL.set (congrArg I (show _ = n / 366 by rw [Int.tdiv_eq_ediv_of_nonneg (by omega)]; exact wrap_i64_in ⟨by omega, by omega⟩)) ?_
 refine sx 3 ?_
 refine kp [0, 2] rfl ?_
 refine Run.seq ?_
 refine Run.block ?_
 refine Run.loop (fun m E L => ∃ y : Int, m = (2199 - y).toNat ∧ 1900 ≤ y ∧ y ≤ 2199 ∧ beforeF y ≤ n ∧ E = [(0, I n), (2, .pointer (some ⟨b2, 0, none⟩))] ∧ L = [pt b2 (blk [I y, I 0, I 0] 157), R]) ⟨_, 1900 + n / 366, rfl, hfst.1, hfst.2.1, hfst.2.2, rfl, rfl⟩ ?_
 rintro _ _ _ ⟨y, rfl, hy1, hy2, hyn, rfl, rfl⟩
 refine Run.seq ?_
 refine sr ?_
 refine RunL.cut (t := 22) (v := Bo (decide (y < 2199 ∧ beforeF (y + 1) ≤ n))) (kt (ks := [0, 2]) rfl) ?_ ?_
 refine sx 4 ?_
 first | refine RunL.splitP (t := 15) rfl (fun g2 => ?_) (fun g2 => ?_) | refine RunL.split (t := 15) rfl (fun g2 => ?_) (fun g2 => ?_)
 refine sx 3 ?_
 refine RunL.callG C142 rfl rfl rfl rfl rfl (c_before _ (by omega) (by omega)) .nil ?_
 refine sx 3 ?_
 exact RunL.nil ⟨.cons (by first | rfl | (show some (Value.bool _) = some (Value.bool _); rw [decide_eq_false (show ¬ (y < 2199 ∧ beforeF (y + 1) ≤ n) by omega)]) | (show some (Value.bool _) = some (Value.bool _); simp_all)) (kt (ks := [0, 2]) rfl), rfl⟩
 refine sx 7 ?_
 exact RunL.nil ⟨.cons (by first | rfl | (show some (Value.bool _) = some (Value.bool _); rw [decide_eq_false (show ¬ (y < 2199 ∧ beforeF (y + 1) ≤ n) by omega)]) | (show some (Value.bool _) = some (Value.bool _); simp_all)) (kt (ks := [0, 2]) rfl), rfl⟩
 first | refine Run.if rfl (fun h3 => ?_) (fun h3 => ?_) | refine Run.cond rfl (fun h3 => ?_) (fun h3 => ?_)
 refine Run.skip ?_
 refine Run.block ?_
 refine Run.region ?_
 refine sx 5 ?_
 refine RunL.weak (L' := [pt b2 (blk [I (y + 1), I 0, I 0] 157), R]) (Keep.sub (kt (ks := [0, 2]) rfl)) gv (RunL.nil ?_)
 exact ⟨_, by omega, y + 1, rfl, by omega, by omega, by omega, rfl, rfl⟩
 refine Run.exit ?_
 refine sr ?_
 have hfound := year_found hy1 hy2 hyn hn.2 (by omega)
 have hbw := before_wrap (y := y) (by omega) (by omega)
 refine sx 3 ?_
 refine RunL.call C142 rfl rfl rfl (c_before _ (by omega) (by omega)) .nil ?_
 refine sx 2 ?_
 refine kp [0, 2] rfl ?_
 refine sr ?_
 refine sx 2 ?_
 refine kp [0, 2] rfl ?_
 refine Run.seq ?_
 refine Run.block ?_
 refine Run.loop (fun mm E L => ∃ m k : Int, mm = (12 - m).toNat ∧ 1 ≤ m ∧ m ≤ 12 ∧ 0 ≤ k ∧ k < restM (leapB y) m ∧ n = beforeF y + cumM (leapB y) m + k ∧ E = [(0, I k), (2, .pointer (some ⟨b2, 0, none⟩))] ∧ L = [pt b2 (blk [I y, I m, I 0] 157), R]) ⟨_, 1, _, rfl, by omega, by omega, hfound.1, hfound.2, (by have := @cum_first (leapB y); omega), rfl, rfl⟩ ?_
 rintro _ _ _ ⟨m, k, rfl, hm1, hm2, hk0, hkr, hkn, rfl, rfl⟩
 refine Run.seq ?_
 refine sr ?_
 refine sx 5 ?_
 refine RunL.call C91 rfl rfl rfl (c_Length _ _ _ hR) tks ?_
 refine sx 1 ?_
 refine kp [0, 2, 39] rfl ?_
 first | refine Run.if rfl (fun h4 => ?_) (fun h4 => ?_) | refine Run.cond rfl (fun h4 => ?_) (fun h4 => ?_)
 refine Run.skip ?_
 refine Run.block ?_
 refine sr ?_
 have hnx := rest_next hm1 hm2 hkr (by omega)
 have hlr := @lenM_range (leapB y) m
 have hrl := @rest_le (leapB y) m
 refine sx 5 ?_
 refine RunL.call C91 rfl rfl rfl (c_Length _ _ _ hR) tks ?_
 refine sx 2 ?_
 refine kp [0, 2] rfl ?_
 refine Run.region ?_
 refine sx 5 ?_
 refine RunL.weak (L' := [pt b2 (blk [I y, I (m + 1), I 0] 157), R]) (Keep.sub (kt (ks := [0, 2]) rfl)) gv (RunL.nil ?_)
 exact ⟨_, by omega, m + 1, _, rfl, by omega, by omega, hnx.2.1, hnx.2.2, (by have := cum_step (l := leapB y) hm1 hnx.1; omega), rfl, rfl⟩
 refine Run.exit ?_
 refine sr ?_
 have hrl := @rest_le (leapB y) m
 have hdf := date_found (n := n) ⟨hy1, hy2⟩ ⟨hm1, hm2⟩ hk0 (by omega) hkn
 refine sx 4 ?_
 refine kp [2] rfl ?_
 refine sr ?_
 refine sx 1 ?_
 refine RunL.op rfl rfl (OpJ.storeW T157 rfl rfl rfl rfl (by simp [Value.oneCell', Tg.c, Ln.c, En.c, Ac.c, Cl.c, Ky.c, Qy.c, Sb, Iv]) up ?_)
 refine asg rfl rfl ?_
 refine kp [2, 3] rfl ?_
 refine Run.ret ?_
 exact ret_out (y, m, k + 1) (.cellA T157 rfl pk (by rfl) (.tmp rfl .nil)) (fun _ => hdf) (by rw [if_pos (by simpa using h1)]; rfl) gv
theorem c_Of (y m d : Int) (R : HP) (hR : Rd R ⟨0, 0, none⟩ lensC) : AC Tryz.prog 89 ⟨[.agg ⟨[I y, I m, I d]⟩]⟩ (stars [R]) (Ret (.tuple ⟨[I (if ofB y m d = true then dayF y m d else 0), I (if ofB y m d = true then 0 else 11)]⟩) [R]) := by
 refine AC.go Tryz.func89 rfl (Nat.le_of_ble_eq_true rfl) fun β => ?_
 refine sr ?_
 refine RunL.op rfl rfl (OpJ.boxA rfl fun b1 => ?_)
 refine sx 2 ?_
 refine kp [1] rfl ?_
 refine Run.seq ?_
 refine Run.seq ?_
 refine regionD HM ?_
 refine tk 0 rfl rfl rfl (DetJ.fieldAddr F157_0 rfl) ?_
 first | refine RunD.takeF 1 rfl rfl kr T3 rfl pk (by rfl) ?_ | refine RunD.takeO 1 rfl rfl kr T3 rfl pk (by assumption) (by rfl) (by exact fun _ => rfl) ?_
 refine tk 2 rfl rfl rfl (DetJ.lss rfl rfl) ?_
 refine tk 3 rfl rfl rfl (DetJ.move rfl) ?_
 by_cases g1 : y < 1900
 refine RunD.set (congrArg Bo (decide_eq_true g1)) ?_
 refine RunD.takeN 4 rfl rfl rfl rfl rfl kr ?_
 refine RunD.takeN 5 rfl rfl rfl rfl rfl kr ?_
 refine RunD.takeN 6 rfl rfl rfl rfl rfl kr ?_
 refine tk 7 rfl rfl rfl (DetJ.pickT rfl rfl) ?_
 refine tk 8 rfl rfl rfl (DetJ.move rfl) ?_
 refine RunD.takeN 9 rfl rfl rfl rfl rfl kr ?_
 refine RunD.takeN 10 rfl rfl rfl rfl rfl kr ?_
 refine RunD.takeN 11 rfl rfl rfl rfl rfl kr ?_
 refine tk 12 rfl rfl rfl (DetJ.pickT rfl rfl) ?_
 refine tk 13 rfl rfl rfl (DetJ.move rfl) ?_
 refine RunD.takeN 14 rfl rfl rfl rfl rfl kr ?_
 refine RunD.takeN 15 rfl rfl rfl rfl rfl kr ?_
 refine RunD.takeN 16 rfl rfl rfl rfl rfl kr ?_
 refine RunD.takeN 17 rfl rfl rfl rfl rfl kr ?_
 refine RunD.takeN 18 rfl rfl rfl rfl rfl kr ?_
 refine RunD.takeN 19 rfl rfl rfl rfl rfl kr ?_
 refine RunD.takeN 20 rfl rfl rfl rfl rfl kr ?_
 refine RunD.takeN 21 rfl rfl rfl rfl rfl kr ?_
 refine tk 22 rfl rfl rfl (DetJ.pickT rfl rfl) ?_
 refine kd [1, 27] rfl ?_
 refine Run.true rfl ?_
 refine sr ?_
 refine sx 2 ?_
 refine kp [2, 3] rfl ?_
 refine Run.ret ?_
 exact ret_one (.tmp rfl (.tmp rfl .nil)) (by have ho : ¬ ofB y m d = true := by { unfold ofB; simp only [decide_eq_true_eq]; omega }; rw [if_neg ho, if_neg ho]; rfl) gv
 refine RunD.set (congrArg Bo (decide_eq_false g1)) ?_
 refine RunD.takeG 4 rfl rfl rfl rfl rfl kr (DetJ.fieldAddr F157_0 rfl) .nil ?_
 first | refine RunD.takeGF 5 rfl rfl rfl rfl kr T3 rfl pk (by rfl) ?_ | refine RunD.takeGO 5 rfl rfl rfl rfl kr T3 rfl pk (by assumption) (by rfl) (by exact fun _ => rfl) ?_
 refine RunD.takeG 6 rfl rfl rfl rfl rfl kr (DetJ.gtr rfl rfl) .nil ?_
 refine tk 7 rfl rfl rfl (DetJ.pickF rfl rfl) ?_
 refine tk 8 rfl rfl rfl (DetJ.move rfl) ?_
 by_cases g2 : 2199 < y
 refine RunD.set (congrArg Bo (decide_eq_true g2)) ?_
 refine RunD.takeN 9 rfl rfl rfl rfl rfl kr ?_
 refine RunD.takeN 10 rfl rfl rfl rfl rfl kr ?_
 refine RunD.takeN 11 rfl rfl rfl rfl rfl kr ?_
 refine tk 12 rfl rfl rfl (DetJ.pickT rfl rfl) ?_
 refine tk 13 rfl rfl rfl (DetJ.move rfl) ?_
 refine RunD.takeN 14 rfl rfl rfl rfl rfl kr ?_
 refine RunD.takeN 15 rfl rfl rfl rfl rfl kr ?_
 refine RunD.takeN 16 rfl rfl rfl rfl rfl kr ?_
 refine RunD.takeN 17 rfl rfl rfl rfl rfl kr ?_
 refine RunD.takeN 18 rfl rfl rfl rfl rfl kr ?_
 refine RunD.takeN 19 rfl rfl rfl rfl rfl kr ?_
 refine RunD.takeN 20 rfl rfl rfl rfl rfl kr ?_
 refine RunD.takeN 21 rfl rfl rfl rfl rfl kr ?_
 refine tk 22 rfl rfl rfl (DetJ.pickT rfl rfl) ?_
 refine kd [1, 27] rfl ?_
 refine Run.true rfl ?_
 refine sr ?_
 refine sx 2 ?_
 refine kp [2, 3] rfl ?_
 refine Run.ret ?_
 exact ret_one (.tmp rfl (.tmp rfl .nil)) (by have ho : ¬ ofB y m d = true := by { unfold ofB; simp only [decide_eq_true_eq]; omega }; rw [if_neg ho, if_neg ho]; rfl) gv
 refine RunD.set (congrArg Bo (decide_eq_false g2)) ?_
 refine RunD.takeG 9 rfl rfl rfl rfl rfl kr (DetJ.fieldAddr F157_2 rfl) .nil ?_
 first | refine RunD.takeGF 10 rfl rfl rfl rfl kr T3 rfl pk (by rfl) ?_ | refine RunD.takeGO 10 rfl rfl rfl rfl kr T3 rfl pk (by assumption) (by rfl) (by exact fun _ => rfl) ?_
 refine RunD.takeG 11 rfl rfl rfl rfl rfl kr (DetJ.lss rfl rfl) .nil ?_
 refine tk 12 rfl rfl rfl (DetJ.pickF rfl rfl) ?_
 refine tk 13 rfl rfl rfl (DetJ.move rfl) ?_
 by_cases g3 : d < 1
 refine RunD.set (congrArg Bo (decide_eq_true g3)) ?_
 refine RunD.takeN 14 rfl rfl rfl rfl rfl kr ?_
 refine RunD.takeN 15 rfl rfl rfl rfl rfl kr ?_
 refine RunD.takeN 16 rfl rfl rfl rfl rfl kr ?_
 refine RunD.takeN 17 rfl rfl rfl rfl rfl kr ?_
 refine RunD.takeN 18 rfl rfl rfl rfl rfl kr ?_
 refine RunD.takeN 19 rfl rfl rfl rfl rfl kr ?_
 refine RunD.takeN 20 rfl rfl rfl rfl rfl kr ?_
 refine RunD.takeN 21 rfl rfl rfl rfl rfl kr ?_
 refine tk 22 rfl rfl rfl (DetJ.pickT rfl rfl) ?_
 refine kd [1, 27] rfl ?_
 refine Run.true rfl ?_
 refine sr ?_
 refine sx 2 ?_
 refine kp [2, 3] rfl ?_
 refine Run.ret ?_
 exact ret_one (.tmp rfl (.tmp rfl .nil)) (by have ho : ¬ ofB y m d = true := by { unfold ofB; simp only [decide_eq_true_eq]; omega }; rw [if_neg ho, if_neg ho]; rfl) gv
 refine RunD.set (congrArg Bo (decide_eq_false g3)) ?_
 refine RunD.takeG 14 rfl rfl rfl rfl rfl kr (DetJ.fieldAddr F157_2 rfl) .nil ?_
 first | refine RunD.takeGF 15 rfl rfl rfl rfl kr T3 rfl pk (by rfl) ?_ | refine RunD.takeGO 15 rfl rfl rfl rfl kr T3 rfl pk (by assumption) (by rfl) (by exact fun _ => rfl) ?_
 refine RunD.takeG 16 rfl rfl rfl rfl rfl kr (DetJ.fieldAddr F157_0 rfl) .nil ?_
 first | refine RunD.takeGF 17 rfl rfl rfl rfl kr T3 rfl pk (by rfl) ?_ | refine RunD.takeGO 17 rfl rfl rfl rfl kr T3 rfl pk (by assumption) (by rfl) (by exact fun _ => rfl) ?_
 refine RunD.takeG 18 rfl rfl rfl rfl rfl kr (DetJ.fieldAddr F157_1 rfl) .nil ?_
 first | refine RunD.takeGF 19 rfl rfl rfl rfl kr T3 rfl pk (by rfl) ?_ | refine RunD.takeGO 19 rfl rfl rfl rfl kr T3 rfl pk (by assumption) (by rfl) (by exact fun _ => rfl) ?_
 refine RunD.opG 20 [false, false, false, false, true, true, false, false, false, true, true, false, false, true, true, true, false, true, true, true] rfl rfl rfl rfl rfl kr kr (OpJ.callRet C91 rfl rfl (c_Length _ _ _ hR) tks ⟨po, ?_⟩)
 refine RunD.takeG 21 rfl rfl rfl rfl rfl kr (DetJ.gtr rfl rfl) .nil ?_
 refine tk 22 rfl rfl rfl (DetJ.pickF rfl rfl) ?_
 refine kd [1, 27] rfl ?_
 first | refine Run.if rfl (fun h1 => ?_) (fun h1 => ?_) | refine Run.cond rfl (fun h1 => ?_) (fun h1 => ?_)
 refine sr ?_
 refine sx 2 ?_
 refine kp [2, 3] rfl ?_
 refine Run.ret ?_
 exact ret_one (.tmp rfl (.tmp rfl .nil)) (by have ho : ¬ ofB y m d = true := by { unfold ofB; simp only [decide_eq_true_eq]; omega }; rw [if_neg ho, if_neg ho]; rfl) gv
 refine Run.skip ?_
 refine Run.seq ?_
 refine regionD HM ?_
 have ho : ofB y m d = true := by unfold ofB; simp only [decide_eq_true_eq]; omega
 have hm := ofB_month ho
 have hbw := before_wrap (y := y) (by omega) (by omega)
 have hlr := @lenM_range (leapB y) m
 refine tk 0 rfl rfl rfl (DetJ.fieldAddr F157_0 rfl) ?_
 first | refine RunD.takeF 1 rfl rfl kr T3 rfl pk (by rfl) ?_ | refine RunD.takeO 1 rfl rfl kr T3 rfl pk (by assumption) (by rfl) (by exact fun _ => rfl) ?_
 refine tk 3 rfl rfl rfl (DetJ.fieldAddr F157_2 rfl) ?_
 first | refine RunD.takeF 4 rfl rfl kr T3 rfl pk (by rfl) ?_ | refine RunD.takeO 4 rfl rfl kr T3 rfl pk (by assumption) (by rfl) (by exact fun _ => rfl) ?_
 refine RunD.op 2 [true, true, false, false] rfl rfl rfl kr kr (OpJ.callRet C142 rfl rfl (c_before _ (by omega) (by omega)) .nil ⟨po, ?_⟩)
 first | refine tk 5 rfl rfl rfl (DetJ.addI rfl rfl (by omega)) ?_ | refine tk 5 rfl rfl rfl (DetJ.add rfl rfl) ?_
 first | refine tk 6 rfl rfl rfl (DetJ.subI rfl rfl (by omega)) ?_ | refine tk 6 rfl rfl rfl (DetJ.sub rfl rfl) ?_
 refine tk 7 rfl rfl rfl (DetJ.assign rfl) ?_
 refine kd [1, 2] rfl ?_
 refine Run.seq ?_
 refine sr ?_
 refine asg rfl rfl ?_
 refine kp [1, 2, 4] rfl ?_
 refine Run.block ?_
 refine Run.weak (L' := [pt b1 (blk [I y, I m, I d] 157), R]) (fun _ _ h => h) gv ?_
 refine Run.loop (fun mm E L => ∃ k : Int, mm = (m - k).toNat ∧ 1 ≤ k ∧ k ≤ m ∧ E = [(1, .pointer (some ⟨b1, 0, none⟩)), (2, I (beforeF y + d - 1 + cumM (leapB y) k)), (4, I k)] ∧ L = [pt b1 (blk [I y, I m, I d] 157), R]) ⟨_, 1, rfl, by omega, by omega, (by rw [cum_first, Int.add_zero]), rfl⟩ ?_
 rintro _ _ _ ⟨k, rfl, hk1, hk2, rfl, rfl⟩
 refine Run.seq ?_
 refine sr ?_
 refine sx 4 ?_
 refine kp [1, 2, 4, 38] rfl ?_
 first | refine Run.if rfl (fun h2 => ?_) (fun h2 => ?_) | refine Run.cond rfl (fun h2 => ?_) (fun h2 => ?_)
 refine Run.skip ?_
 refine Run.seq ?_
 refine Run.block ?_
 refine Run.region ?_
 have hkr := @lenM_range (leapB y) k
 have hkc := cum_le (l := leapB y) (m := k) (by omega) (by omega)
 refine sx 4 ?_
 refine RunL.call C91 rfl rfl rfl (c_Length _ _ _ hR) tks ?_
 refine sx 2 ?_
 refine kp [1, 2, 4] rfl ?_
 refine Run.region ?_
 refine sx 3 ?_
 have hcs := cum_step (l := leapB y) (m := k) hk1 (by omega)
 refine RunL.weak (E' := [(1, .pointer (some ⟨b1, 0, none⟩)), (2, I (beforeF y + d - 1 + cumM (leapB y) (k + 1))), (4, I (k + 1))]) (L' := [pt b1 (blk [I y, I m, I d] 157), R]) (by rw [hcs, ← Int.add_assoc]; exact Keep.sub (kt (ks := [1, 2, 4]) rfl)) gv (RunL.nil ?_)
 exact ⟨_, by omega, k + 1, rfl, by omega, by omega, rfl, rfl⟩
 refine Run.exit ?_
 refine sr ?_
 refine sx 3 ?_
 refine kp [2, 3] rfl ?_
 refine Run.ret ?_
 exact ret_one (.tmp rfl (.tmp rfl .nil)) (by rw [if_pos ho, if_pos ho]; obtain rfl : m = k := by { omega }; unfold dayF; rw [show beforeF y + d - 1 + cumM (leapB y) m = beforeF y + cumM (leapB y) m + d - 1 by omega]; rfl) gv
theorem c_MonthEnd (y m d : Int) (hd : ofB y m d = true) (R : HP) (hR : Rd R ⟨0, 0, none⟩ lensC) : AC Tryz.prog 49 ⟨[I (dayF y m d)]⟩ (stars [R]) (Ret (.tuple ⟨[I (dayF y m (lenM (leapB y) m)), I 0]⟩) [R]) := by
 have hr := day_range hd
 have hin : inB (dayF y m d) 0 109572 = true := inB_iff.2 hr
 have hm := ofB_month hd
 have hl := lenM_low (l := leapB y) hm.1 hm.2
 have hol : ofB y m (lenM (leapB y) m) = true := by unfold ofB at *; simp only [decide_eq_true_eq] at *; omega
 refine AC.go Tryz.func49 rfl (Nat.le_of_ble_eq_true rfl) fun β => ?_
 refine sr ?_
 refine sx 2 ?_
 refine kp [0] rfl ?_
 refine sr ?_
 refine mvo rfl rfl ?_
 refine RunL.callX C90 rfl rfl rfl (c_Date _ _ hR) tks fun ⟨y1, m1, d1⟩ hx => ?_
 obtain ⟨rfl, rfl, rfl⟩ := day_uniq hd (hx hin).1 (hx hin).2.symm
 rw [if_pos hin]
 refine sx 3 ?_
 refine RunL.op rfl rfl (OpJ.alloc Z157 fun b4 => ?_)
 refine RunL.op rfl rfl (OpJ.storeW T157 rfl rfl rfl rfl (by simp [Value.oneCell', Tg.c, Ln.c, En.c, Ac.c, Cl.c, Ky.c, Qy.c, Sb, Iv]) up ?_)
 refine asg rfl rfl ?_
 refine kp [3, 4] rfl ?_
 refine Run.seq ?_
 refine sr ?_
 refine sx 2 ?_
 refine kp [3, 4, 11] rfl ?_
 refine Run.false rfl ?_
 refine Run.skip ?_
 refine Run.seq ?_
 refine sr ?_
 refine sx 9 ?_
 refine kp [4, 21] rfl ?_
 first | refine Run.if rfl (fun h1 => ?_) (fun h1 => ?_) | refine Run.cond rfl (fun h1 => ?_) (fun h1 => ?_)
 refine sr ?_
 refine sx 2 ?_
 refine kp [2, 3] rfl ?_
 refine Run.ret ?_
 exact ret_one (.tmp rfl (.tmp rfl .nil)) (by obtain ⟨rfl, rfl, rfl⟩ : y = 2199 ∧ m = 12 ∧ d = 31 := (by simpa using h1); rw [show lenM (leapB 2199) 12 = 31 from (by with_unfolding_all decide), day_last]; rfl) gv
 refine Run.skip ?_
 refine sr ?_
 refine sx 4 ?_
 refine RunL.call C91 rfl rfl rfl (c_Length _ _ _ hR) tks ?_
 refine sx 2 ?_
 refine kp [4] rfl ?_
 refine sr ?_
 refine sx 1 ?_
 refine RunL.call C89 rfl rfl rfl (c_Of _ _ _ _ hR) tks ?_
 refine sx 4 ?_
 refine kp [2, 3] rfl ?_
 refine Run.ret ?_
 exact ret_one (.tmp rfl (.tmp rfl .nil)) (by rw [if_pos hol, if_pos hol]; rfl) gv
theorem c_fRight (first : Int) : AC Tryz.prog 45 ⟨[.agg ⟨[I first]⟩]⟩ (stars []) (Ret (Bo (inB first 1 12)) []) := by
 refine AC.go Tryz.func45 rfl (Nat.le_of_ble_eq_true rfl) fun β => ?_
 refine sr ?_
 refine RunL.op rfl rfl (OpJ.boxA rfl fun b1 => ?_)
 refine asg rfl rfl ?_
 refine kp [1] rfl ?_
 refine sr ?_
 refine sx 4 ?_
 first | refine RunL.splitP (t := 6) rfl (fun g1 => ?_) (fun g1 => ?_) | refine RunL.split (t := 6) rfl (fun g1 => ?_) (fun g1 => ?_)
 refine sx 5 ?_
 refine kp [2] rfl ?_
 refine Run.ret ?_
 exact ret_one (.tmp rfl .nil) (by first | (simp [tup, inB,  *]; done) | (exfalso; omega)) gv
 refine sx 5 ?_
 refine kp [2] rfl ?_
 refine Run.ret ?_
 exact ret_one (.tmp rfl .nil) (by first | (simp [tup, inB,  *]; done) | (exfalso; omega)) gv
theorem c_begin (first year k : Int) (hf : 1 ≤ first ∧ first ≤ 12) (hk : 0 ≤ k ∧ k ≤ 11) (hy : 1900 ≤ year ∧ year ≤ 2199) (R : HP) (hR : Rd R ⟨0, 0, none⟩ lensC) : AC Tryz.prog 48 ⟨[.agg ⟨[I first]⟩, I year, I k]⟩ (stars [R]) (Ret (.tuple ⟨[I (if fisB first year k = true then fisD first year k else 0), Bo (fisB first year k)]⟩) [R]) := by
 refine AC.go Tryz.func48 rfl (Nat.le_of_ble_eq_true rfl) fun β => ?_
 refine sr ?_
 refine RunL.op rfl rfl (OpJ.boxA rfl fun b3 => ?_)
 refine sx 2 ?_
 refine kp [1, 2, 3] rfl ?_
 refine sr ?_
 refine sx 6 ?_
 refine kp [1, 8] rfl ?_
 refine sr ?_
 refine sx 3 ?_
 refine RunL.set (congrArg I (show _ = (first - 1 + k) / 12 by rw [Int.tdiv_eq_ediv_of_nonneg (by omega)]; exact wrap_i64_in ⟨by omega, by omega⟩)) ?_
 refine sx 3 ?_
 refine RunL.set (congrArg I (show _ = (first - 1 + k) % 12 by rw [Int.tmod_eq_emod_of_nonneg (by omega)])) ?_
 refine sx 2 ?_
 refine RunL.call C89 rfl rfl rfl (c_Of (fisY first year k) (fisM first k) 1 _ hR) tks ?_
 refine sx 5 ?_
 refine kp [9, 10] rfl ?_
 refine sr ?_
 refine sx 5 ?_
 refine kp [6, 7] rfl ?_
 refine Run.ret ?_
 exact ret_one (.tmp rfl (.tmp rfl .nil)) (by unfold fisB fisD; cases ofB (fisY first year k) (fisM first k) 1 <;> rfl) gv
theorem c_ends (first year : Int) (hf : 1 ≤ first ∧ first ≤ 12) (R : HP) (hR : Rd R ⟨0, 0, none⟩ lensC) : AC Tryz.prog 47 ⟨[.agg ⟨[I first]⟩, I year]⟩ (stars [R]) (Ret (.tuple ⟨[I (if yearB first year = true then fisD first year 0 else 0), I (if yearB first year = true then lastF first year else 0), Bo (yearB first year)]⟩) [R]) := by
 refine AC.go Tryz.func47 rfl (Nat.le_of_ble_eq_true rfl) fun β => ?_
 refine sr ?_
 refine RunL.op rfl rfl (OpJ.boxA rfl fun b2 => ?_)
 refine sx 3 ?_
 refine kp [1, 2] rfl ?_
 refine Run.seq ?_
 refine sr ?_
 refine sx 3 ?_
 first | refine RunL.splitP (t := 11) rfl (fun g1 => ?_) (fun g1 => ?_) | refine RunL.split (t := 11) rfl (fun g1 => ?_) (fun g1 => ?_)
 refine sx 3 ?_
 refine kp [1, 2, 14] rfl ?_
 refine Run.true rfl ?_
 refine sr ?_
 refine sx 3 ?_
 refine kp [4, 5, 6] rfl ?_
 refine Run.ret ?_
 exact ret_one (.tmp rfl (.tmp rfl (.tmp rfl .nil))) (by have hyb : yearB first year = false := (by { unfold yearB; rw [decide_eq_false_iff_not]; omega }); rw [hyb]; rfl) gv
 refine sx 3 ?_
 refine kp [1, 2, 14] rfl ?_
 first | refine Run.if rfl (fun h2 => ?_) (fun h2 => ?_) | refine Run.cond rfl (fun h2 => ?_) (fun h2 => ?_)
 refine sr ?_
 refine sx 3 ?_
 refine kp [4, 5, 6] rfl ?_
 refine Run.ret ?_
 exact ret_one (.tmp rfl (.tmp rfl (.tmp rfl .nil))) (by have hyb : yearB first year = false := (by { unfold yearB; rw [decide_eq_false_iff_not]; omega }); rw [hyb]; rfl) gv
 refine Run.skip ?_
 refine sr ?_
 have h0 := fisB_iff hf (k := 0) (by omega) (year := year) (by omega)
 have h11 := fisB_iff hf (k := 11) (by omega) (year := year) (by omega)
 rw [show decide (fisY first year 0 ≤ 2199) = true by { rw [decide_eq_true_eq]; unfold fisY; omega }] at h0
 refine sx 2 ?_
 refine RunL.call C48 rfl rfl rfl (c_begin _ _ _ hf (by omega) (by omega) _ hR) tks ?_
 refine sx 5 ?_
 refine kp [1, 2, 4, 6] rfl ?_
 refine sr ?_
 refine sx 2 ?_
 refine RunL.call C48 rfl rfl rfl (c_begin _ _ _ hf (by omega) (by omega) _ hR) tks ?_
 refine sx 5 ?_
 refine kp [4, 6, 7, 8] rfl ?_
 refine Run.seq ?_
 refine sr ?_
 refine sx 3 ?_
 first | refine RunL.splitP (t := 29) rfl (fun g3 => ?_) (fun g3 => ?_) | refine RunL.split (t := 29) rfl (fun g3 => ?_) (fun g3 => ?_)
 refine sx 3 ?_
 refine kp [4, 7, 32] rfl ?_
 refine Run.true rfl ?_
 refine sr ?_
 refine sx 3 ?_
 refine kp [4, 5, 6] rfl ?_
 refine Run.ret ?_
 exact ret_one (.tmp rfl (.tmp rfl (.tmp rfl .nil))) (by have hyb : yearB first year = false := (by { unfold yearB; rw [decide_eq_false_iff_not]; simp_all }); rw [hyb]; rfl) gv
 refine sx 3 ?_
 refine kp [4, 7, 32] rfl ?_
 first | refine Run.if rfl (fun h4 => ?_) (fun h4 => ?_) | refine Run.cond rfl (fun h4 => ?_) (fun h4 => ?_)
 refine sr ?_
 refine sx 3 ?_
 refine kp [4, 5, 6] rfl ?_
 refine Run.ret ?_
 exact ret_one (.tmp rfl (.tmp rfl (.tmp rfl .nil))) (by have hyb : yearB first year = false := (by { unfold yearB; rw [decide_eq_false_iff_not]; simp_all }); rw [hyb]; rfl) gv
 refine Run.skip ?_
 refine sr ?_
 have hyb : yearB first year = true := by { unfold yearB; rw [decide_eq_true_eq]; simp_all }
 have hb11 := year_all hf (k := 11) (by omega) hyb
 rw [if_pos hb11]
 unfold fisD fisB at *
 refine mvo rfl rfl ?_
 refine RunL.call C49 rfl rfl rfl (c_MonthEnd _ _ _ hb11 _ hR) tks ?_
 refine sx 4 ?_
 refine kp [4, 5] rfl ?_
 refine sr ?_
 refine sx 5 ?_
 refine kp [4, 5, 6] rfl ?_
 refine Run.ret ?_
 exact ret_one (.tmp rfl (.tmp rfl (.tmp rfl .nil))) (by rw [hyb, if_pos rfl, if_pos rfl]; simp only [h0]; rfl) gv
theorem c_exists (first year no : Int) (hf : 1 ≤ first ∧ first ≤ 12) (R : HP) (hR : Rd R ⟨0, 0, none⟩ lensC) : AC Tryz.prog 46 ⟨[.agg ⟨[I first]⟩, .agg ⟨[I year, I no]⟩]⟩ (stars [R]) (Ret (Bo (yearB first year && inB no 1 13)) [R]) := by
 refine AC.go Tryz.func46 rfl (Nat.le_of_ble_eq_true rfl) fun β => ?_
 refine sr ?_
 refine RunL.op rfl rfl (OpJ.boxA rfl fun b2 => ?_)
 refine RunL.op rfl rfl (OpJ.boxA rfl fun b3 => ?_)
 refine asg rfl rfl ?_
 refine kp [2, 3] rfl ?_
 refine sr ?_
 refine sx 3 ?_
 refine RunL.call C47 rfl rfl rfl (c_ends _ _ hf _ hR) tks ?_
 refine sx 7 ?_
 refine kp [3, 7] rfl ?_
 refine sr ?_
 refine sx 2 ?_
 first | refine RunL.splitP (t := 17) rfl (fun g1 => ?_) (fun g1 => ?_) | refine RunL.split (t := 17) rfl (fun g1 => ?_) (fun g1 => ?_)
 refine sx 5 ?_
 first | refine RunL.splitP (t := 22) rfl (fun g2 => ?_) (fun g2 => ?_) | refine RunL.split (t := 22) rfl (fun g2 => ?_) (fun g2 => ?_)
 refine sx 5 ?_
 refine kp [4] rfl ?_
 refine Run.ret ?_
 exact ret_one (.tmp rfl .nil) (congrArg Bo (by rw [Bool.eq_iff_iff]; first | (simp [inB, *]; done) | (simp [inB, *]; omega))) gv
 refine sx 5 ?_
 refine kp [4] rfl ?_
 refine Run.ret ?_
 exact ret_one (.tmp rfl .nil) (congrArg Bo (by rw [Bool.eq_iff_iff]; first | (simp [inB, *]; done) | (simp [inB, *]; omega))) gv
 refine sx 10 ?_
 refine kp [4] rfl ?_
 refine Run.ret ?_
 exact ret_one (.tmp rfl .nil) (congrArg Bo (by rw [Bool.eq_iff_iff]; first | (simp [inB, *]; done) | (simp [inB, *]; omega))) gv
theorem c_Span (first year no : Int) (R : HP) (hR : Rd R ⟨0, 0, none⟩ lensC) : AC Tryz.prog 19 ⟨[.agg ⟨[I first]⟩, .agg ⟨[I year, I no]⟩]⟩ (stars [R]) (Ret (.tuple ⟨[I (spanM first year no).1, I (spanM first year no).2.1, I (spanM first year no).2.2]⟩) [R]) := by
 refine AC.go Tryz.func19 rfl (Nat.le_of_ble_eq_true rfl) fun β => ?_
 refine sr ?_
 refine RunL.op rfl rfl (OpJ.boxA rfl fun b2 => ?_)
 refine RunL.op rfl rfl (OpJ.boxA rfl fun b3 => ?_)
 refine sx 3 ?_
 refine kp [2, 3] rfl ?_
 refine Run.seq ?_
 refine sr ?_
 refine sx 1 ?_
 refine RunL.call C45 rfl rfl rfl (c_fRight _) .nil ?_
 refine RunL.op rfl rfl (OpJ.not rfl ?_)
 refine kp [2, 3, 9] rfl ?_
 first | refine Run.if rfl (fun h1 => ?_) (fun h1 => ?_) | refine Run.cond rfl (fun h1 => ?_) (fun h1 => ?_)
 refine sr ?_
 refine sx 3 ?_
 refine kp [4, 5, 6] rfl ?_
 refine Run.ret ?_
 exact ret_one (.tmp rfl (.tmp rfl (.tmp rfl .nil))) (by have hs : spanM first year no = (0, 0, 2) := (by { unfold spanM; rw [if_pos]; intro h; have := inB_iff.2 h; simp_all }); rw [hs]; rfl) gv
 refine Run.skip ?_
 refine Run.seq ?_
 refine sr ?_
 have hf := inB_iff.1 (show inB first 1 12 = true by simpa using h1)
 refine sx 2 ?_
 refine RunL.call C46 rfl rfl rfl (c_exists _ _ _ hf _ hR) tks ?_
 refine RunL.op rfl rfl (OpJ.not rfl ?_)
 refine kp [2, 3, 13] rfl ?_
 first | refine Run.if rfl (fun h2 => ?_) (fun h2 => ?_) | refine Run.cond rfl (fun h2 => ?_) (fun h2 => ?_)
 refine sr ?_
 refine sx 3 ?_
 refine kp [4, 5, 6] rfl ?_
 refine Run.ret ?_
 exact ret_one (.tmp rfl (.tmp rfl (.tmp rfl .nil))) (by have hs : spanM first year no = (0, 0, 16) := (by { unfold spanM; rw [if_neg (fun h => h hf), if_pos (by rw [Bool.and_eq_false_iff]; simpa using h2)] }); rw [hs]; rfl) gv
 refine Run.skip ?_
 refine Run.seq ?_
 refine sr ?_
 have hb : (yearB first year && inB no 1 13) = true := by simpa using h2
 have hbb := hb
 rw [Bool.and_eq_true] at hbb
 have hno := inB_iff.1 hbb.2
 have hyr : 1900 ≤ year ∧ year ≤ 2199 := by { have h := hbb.1; unfold yearB at h; simp only [decide_eq_true_eq] at h; omega }
 refine sx 3 ?_
 refine kp [2, 3, 16] rfl ?_
 first | refine Run.if rfl (fun h3 => ?_) (fun h3 => ?_) | refine Run.cond rfl (fun h3 => ?_) (fun h3 => ?_)
 refine sr ?_
 refine sx 3 ?_
 refine RunL.call C47 rfl rfl rfl (c_ends _ _ hf _ hR) tks ?_
 refine sx 5 ?_
 refine kp [5] rfl ?_
 refine sr ?_
 refine sx 5 ?_
 refine kp [4, 5, 6] rfl ?_
 refine Run.ret ?_
 exact ret_one (.tmp rfl (.tmp rfl (.tmp rfl .nil))) (by have hs : spanM first year no = (lastF first year, lastF first year, 0) := (by { unfold spanM; rw [if_neg (fun h => h hf), if_neg (by simp [hb]), if_pos (by assumption)] }); rw [hs, if_pos hbb.1]; rfl) gv
 refine Run.skip ?_
 refine sr ?_
 refine sx 6 ?_
 refine RunL.call C48 rfl rfl rfl (c_begin _ _ _ hf (by omega) (by omega) _ hR) tks ?_
 refine sx 4 ?_
 refine kp [4] rfl ?_
 refine sr ?_
 have hbk := year_all hf (k := no - 1) (by omega) hbb.1
 rw [if_pos hbk]
 unfold fisD fisB at *
 refine mvo rfl rfl ?_
 refine RunL.call C49 rfl rfl rfl (c_MonthEnd _ _ _ hbk _ hR) tks ?_
 refine sx 4 ?_
 refine kp [4, 5] rfl ?_
 refine sr ?_
 refine sx 5 ?_
 refine kp [4, 5, 6] rfl ?_
 refine Run.ret ?_
 exact ret_one (.tmp rfl (.tmp rfl (.tmp rfl .nil))) (by have hs : spanM first year no = (fisD first year (no - 1), fisE first year (no - 1), 0) := (by { unfold spanM; rw [if_neg (fun h => h hf), if_neg (by simp [hb]), if_neg (by assumption)] }); rw [hs]; rfl) gv
end
instance xAdd : XI Tryz.prog 150 add64Entry := ⟨⟨Tryz.f150, Tryz.func150, by kernel_rfl, by kernel_rfl, by kernel_rfl, by kernel_rfl⟩⟩
section
attribute [local irreducible] OpJ RunL Run RunD DetJ pt own star Rd RdS
theorem c_Sum (R : HP) (oa : Option Addr) (cap : Nat) (xs : List Int) (hR : RdS R oa (xs.flatMap Iv)) (hx : ∀ x ∈ xs, i64 x) (hl : xs.length ≤ 1000000) : AC Tryz.prog 99 ⟨[.slice oa xs.length cap]⟩ (stars [R]) (Ret (.tuple ⟨[I (sumV xs), Bo (fitsV xs)]⟩) [R]) := by
 refine AC.go Tryz.func99 rfl (Nat.le_of_ble_eq_true rfl) fun β => ?_
 refine sr ?_
 refine sx 2 ?_
 refine kp [0] rfl ?_
 refine sr ?_
 refine sx 2 ?_
 refine kp [0, 4, 5] rfl ?_
 refine Run.seq ?_
 refine sr ?_
 refine sx 3 ?_
 refine kp [4, 5, 9, 10, 11] rfl ?_
 refine Run.block ?_
 refine Run.loop (fun mm E L => ∃ (i : Nat) (lo hi : Int), mm = xs.length - i ∧ i ≤ xs.length ∧ Words ((xs.take i).sum) lo hi ∧ E = [(4, U hi), (5, U lo), (9, .slice oa xs.length cap), (10, I xs.length), (11, I i)] ∧ L = [R]) ⟨_, 0, 0, 0, rfl, Nat.zero_le _, Words.zero, rfl, rfl⟩ ?_
 rintro _ _ _ ⟨i, lo, hi, rfl, hi2, hw, rfl, rfl⟩
 refine sr ?_
 refine sx 1 ?_
 refine kp [4, 5, 9, 10, 11, 12] rfl ?_
 refine Run.seq ?_
 first | refine Run.if rfl (fun h1 => ?_) (fun h1 => ?_) | refine Run.cond rfl (fun h1 => ?_) (fun h1 => ?_)
 refine Run.skip ?_
 refine Run.seq ?_
 refine Run.block ?_
 refine sr ?_
 obtain ⟨x, hxi⟩ := get_ex (xs := xs) (i := i) (by omega)
 have hx64 := hx x (List.mem_of_getElem? hxi)
 refine RunL.rdOpen pk hR (flat_ne (k := 1) (fun _ => rfl) (by decide) hxi) fun b o e hrd => ?_
 subst e
 refine sx 1 ?_
 refine RunL.op rfl rfl (OpJ.load1 inferInstance rfl pk (hrd.elem (enc := Iv) (fun _ => rfl) hxi) ?_)
 refine asg rfl rfl ?_
 refine kp [4, 5, 7, 9, 10, 11] rfl ?_
 refine sr ?_
 refine asg rfl rfl ?_
 refine kp [4, 5, 7, 9, 10, 11] rfl ?_
 refine sr ?_
 have hw0 := hw; unfold Words at hw0
 have hxm : 0 ≤ x % 18446744073709551616 := by omega
 refine sx 3 ?_
 refine RunL.set (congrArg U (wrapU _)) ?_
 refine RunL.op rfl rfl (OpJ.ext xAdd rfl (fun w => run_addU _ _ _ (by omega) (by omega) (by omega) w) ?_)
 refine sx 5 ?_
 refine kp [4, 5, 7, 8, 9, 10, 11] rfl ?_
 refine Run.region ?_
 refine sx 3 ?_
 refine RunL.set (congrArg I (shr63 hx64)) ?_
 refine sx 1 ?_
 refine RunL.set (congrArg U (wrapU _)) ?_
 refine mvo rfl rfl ?_
 refine RunL.op rfl rfl (OpJ.ext xAdd rfl (fun w => run_addU _ _ _ (by omega) (by split <;> omega) (by omega) w) ?_)
 refine sx 4 ?_
 refine kp [4, 5, 9, 10, 11] rfl ?_
 refine Run.region ?_
 refine sx 2 ?_
 exact RunL.next (Keep.sub (kt (ks := [4, 5, 9, 10, 11]) rfl)) _ ⟨_, by omega, i + 1, _, _, rfl, by omega, (by rw [sum_take hxi]; exact hw.step hx64), rfl, rfl⟩ gv
 refine Run.exit ?_
 refine Run.seq ?_
 refine sr ?_
 have hb := i64_sum hx
 rw [List.take_of_length_le (by omega)] at hw
 have hfit := hw.fit (by omega)
 refine sx 3 ?_
 refine kp [2, 4] rfl ?_
 refine sr ?_
 refine sx 2 ?_
 refine RunL.set (congrArg I (shr63 (wrap_i64 _))) ?_
 refine sx 1 ?_
 refine RunL.set (congrArg U (wrapU _)) ?_
 refine sx 2 ?_
 refine kp [2, 38] rfl ?_
 first | refine Run.if rfl (fun h2 => ?_) (fun h2 => ?_) | refine Run.cond rfl (fun h2 => ?_) (fun h2 => ?_)
 refine sr ?_
 refine sx 2 ?_
 refine kp [2, 3] rfl ?_
 refine Run.ret ?_
 exact ret_one (.tmp rfl (.tmp rfl .nil)) (by have hn : ¬ i64 xs.sum := (fun h => by { have := hfit.1.1 h; omega }); unfold sumV fitsV; rw [if_neg hn, decide_eq_false hn]; rfl) gv
 refine Run.skip ?_
 refine sr ?_
 refine sx 3 ?_
 refine kp [2, 3] rfl ?_
 refine Run.ret ?_
 exact ret_one (.tmp rfl (.tmp rfl .nil)) (by have hn : i64 xs.sum := hfit.1.2 (by omega); unfold sumV fitsV; rw [if_pos hn, decide_eq_true hn, hfit.2 hn]; rfl) gv
theorem c_esum (lim : Int) (hlim : 0 ≤ lim ∧ lim ≤ 1000000000000000) (R : HP) (oa : Option Addr) (cap : Nat) (xs : List Int) (hR : RdS R oa (xs.flatMap Iv)) (hx : ∀ x ∈ xs, i64 x) (hl : xs.length ≤ 1000000) : AC Tryz.prog 102 ⟨[I lim, .slice oa xs.length cap]⟩ (stars [R]) (Ret (.tuple ⟨[I (if wiB xs.sum lim = true then xs.sum else 0), I (if wiB xs.sum lim = true then 0 else 4)]⟩) [R]) := by
 refine AC.go Tryz.func102 rfl (Nat.le_of_ble_eq_true rfl) fun β => ?_
 refine sr ?_
 refine sx 2 ?_
 refine kp [0, 1] rfl ?_
 refine sr ?_
 refine mvo rfl rfl ?_
 refine RunL.call C99 rfl rfl rfl (c_Sum R _ _ _ (by assumption) (by assumption) (by assumption)) tks ?_
 refine sx 5 ?_
 refine kp [0, 6, 7] rfl ?_
 refine Run.seq ?_
 refine sr ?_
 refine sx 3 ?_
 rcases Bool.eq_false_or_eq_true (fitsV xs) with hf | hf
 have hs : i64 xs.sum := fitsV_iff.1 hf
 have hv : sumV xs = xs.sum := sumV_of hs
 rw [hv]
 refine RunL.set (v := Bo false) (by rw [hf]; rfl) ?_
 refine sx 2 ?_
 refine RunL.callG C132 rfl rfl rfl rfl rfl (c_within _ _ (by omega)) .nil ?_
 refine sx 2 ?_
 refine kp [6, 20] rfl ?_
 first | refine Run.if rfl (fun h1 => ?_) (fun h1 => ?_) | refine Run.cond rfl (fun h1 => ?_) (fun h1 => ?_)
 refine sr ?_
 refine sx 2 ?_
 refine kp [4, 5] rfl ?_
 refine Run.ret ?_
 exact ret_one (.tmp rfl (.tmp rfl .nil)) (by have hw : wiB xs.sum lim = false := (by simpa using h1); rw [hw]; rfl) gv
 refine Run.skip ?_
 refine sr ?_
 refine sx 3 ?_
 refine kp [4, 5] rfl ?_
 refine Run.ret ?_
 exact ret_one (.tmp rfl (.tmp rfl .nil)) (by have hw : wiB xs.sum lim = true := (by simpa using h1); rw [hw]; rfl) gv
 have hs : ¬ i64 xs.sum := fun h => by { rw [fitsV_iff.2 h] at hf; cases hf }
 have hw : wiB xs.sum lim = false := (by { unfold wiB; rw [decide_eq_false_iff_not]; unfold i64 at hs; omega })
 refine RunL.set (v := Bo true) (by rw [hf]; rfl) ?_
 refine sx 5 ?_
 refine kp [6, 20] rfl ?_
 refine Run.true rfl ?_
 refine sr ?_
 refine sx 2 ?_
 refine kp [4, 5] rfl ?_
 refine Run.ret ?_
 exact ret_one (.tmp rfl (.tmp rfl .nil)) (by rw [hw]; rfl) gv
theorem c_currency (l : Ln) : AC Tryz.prog 57 ⟨[.agg ⟨l.c⟩]⟩ (stars []) (Ret (St l.cur) []) := by
 refine AC.go Tryz.func57 rfl (Nat.le_of_ble_eq_true rfl) fun β => ?_
 refine sr ?_
 refine RunL.op rfl rfl (OpJ.boxA rfl fun b1 => ?_)
 refine asg rfl rfl ?_
 refine kp [1] rfl ?_
 refine sr ?_
 refine sx 3 ?_
 refine kp [2] rfl ?_
 refine Run.ret ?_
 exact ret_one (.tmp rfl .nil) (by simp [tup, *]) gv
end
abbrev CB (b : Nat) (a1 : Option Addr) (n1 c1 : Nat) (a2 : Option Addr) (n2 c2 : Nat) : HP := pt b (blk [.slice a1 n1 c1, .slice a2 n2 c2] 171)
def colH (x : Colm) : HP := stars [CB x.b x.a1 x.xs.length x.c1 x.a2 x.ys.length x.c2, own 3 1 x.a1 x.xs.length x.c1 (x.xs.flatMap Iv), own 3 1 x.a2 x.ys.length x.c2 (x.ys.flatMap Iv)]
section
attribute [local irreducible] OpJ RunL Run RunD DetJ pt own star Rd RdS
theorem c_add (x : Colm) (l : Ln) (hl : x.xs.length ≤ 100000 ∧ x.ys.length ≤ 100000) : AC Tryz.prog 101 ⟨[.pointer (some ⟨x.b, 0, none⟩), .agg ⟨l.c⟩]⟩ (stars [CB x.b x.a1 x.xs.length x.c1 x.a2 x.ys.length x.c2, own 3 1 x.a1 x.xs.length x.c1 (x.xs.flatMap Iv), own 3 1 x.a2 x.ys.length x.c2 (x.ys.flatMap Iv)]) (Outs (fun _ : Option Addr × Nat × Option Addr × Nat => True) (fun _ => .tuple ⟨[]⟩) (fun y => [CB x.b y.1 (x.xs ++ [l.amt]).length y.2.1 y.2.2.1 (x.ys ++ [l.base]).length y.2.2.2, own 3 1 y.1 (x.xs ++ [l.amt]).length y.2.1 ((x.xs ++ [l.amt]).flatMap Iv), own 3 1 y.2.2.1 (x.ys ++ [l.base]).length y.2.2.2 ((x.ys ++ [l.base]).flatMap Iv)])) := by
 refine AC.go Tryz.func101 rfl (Nat.le_of_ble_eq_true rfl) fun β => ?_
 refine sr ?_
 refine RunL.op rfl rfl (OpJ.boxA rfl fun b3 => ?_)
 refine kp [0, 3] rfl ?_
 refine Run.seq ?_
 refine regionD HM ?_
 refine tk 0 rfl rfl rfl (DetJ.move rfl) ?_
 refine tk 1 rfl rfl rfl (DetJ.move rfl) ?_
 refine tk 2 rfl rfl rfl (DetJ.nilCheck rfl) ?_
 refine tk 3 rfl rfl rfl (DetJ.fieldAddr F171_0 rfl) ?_
 first | refine RunD.takeF 4 rfl rfl kr T112 rfl pk (by rfl) ?_ | refine RunD.takeO 4 rfl rfl kr T112 rfl pk (by assumption) (by rfl) (by exact fun _ => rfl) ?_
 refine tk 5 rfl rfl rfl (DetJ.fieldAddr F73_2 rfl) ?_
 first | refine RunD.takeF 6 rfl rfl kr T3 rfl pk (by rfl) ?_ | refine RunD.takeO 6 rfl rfl kr T3 rfl pk (by assumption) (by rfl) (by exact fun _ => rfl) ?_
 refine RunD.op 7 [false, false, true, true, true, true, true] rfl rfl rfl kr kr (OpJ.buildSlice1 S112 rfl rfl rfl (by decide) (by decide) Z3 rfl fun b11 => ⟨po, ?_⟩)
 refine RunD.op 8 [false, false, false, true, true] rfl rfl rfl kr kr (OpJ.append1 l.amt S112 M3 rfl rfl pk pk rfl rfl (by simp [Value.oneCell', Tg.c, Ln.c, En.c, Ac.c, Cl.c, Ky.c, Qy.c, Sb, Iv]) rfl (by omega) (by omega) fun a12 c12 => ⟨po, ?_⟩)
 refine tk 9 rfl rfl rfl (DetJ.nilCheck rfl) ?_
 refine tk 10 rfl rfl rfl (DetJ.fieldAddr F171_0 rfl) ?_
 refine RunD.op 11 [false, false, false, false] rfl rfl rfl kr kr (OpJ.store1 T112 rfl rfl rfl up (by simp) ⟨po, ?_⟩)
 refine kd [0, 3] rfl ?_
 refine regionD HM ?_
 refine tk 0 rfl rfl rfl (DetJ.move rfl) ?_
 refine tk 1 rfl rfl rfl (DetJ.move rfl) ?_
 refine tk 2 rfl rfl rfl (DetJ.nilCheck rfl) ?_
 refine tk 3 rfl rfl rfl (DetJ.fieldAddr F171_1 rfl) ?_
 first | refine RunD.takeF 4 rfl rfl kr T112 rfl pk (by rfl) ?_ | refine RunD.takeO 4 rfl rfl kr T112 rfl pk (by assumption) (by rfl) (by exact fun _ => rfl) ?_
 refine tk 5 rfl rfl rfl (DetJ.fieldAddr F73_3 rfl) ?_
 first | refine RunD.takeF 6 rfl rfl kr T3 rfl pk (by rfl) ?_ | refine RunD.takeO 6 rfl rfl kr T3 rfl pk (by assumption) (by rfl) (by exact fun _ => rfl) ?_
 refine RunD.op 7 [false, false, true, true, true, true, true] rfl rfl rfl kr kr (OpJ.buildSlice1 S112 rfl rfl rfl (by decide) (by decide) Z3 rfl fun b22 => ⟨po, ?_⟩)
 refine RunD.op 8 [false, false, false, true, true] rfl rfl rfl kr kr (OpJ.append1 l.base S112 M3 rfl rfl pk pk rfl rfl (by simp [Value.oneCell', Tg.c, Ln.c, En.c, Ac.c, Cl.c, Ky.c, Qy.c, Sb, Iv]) rfl (by omega) (by omega) fun a23 c23 => ⟨po, ?_⟩)
 refine tk 9 rfl rfl rfl (DetJ.nilCheck rfl) ?_
 refine tk 10 rfl rfl rfl (DetJ.fieldAddr F171_1 rfl) ?_
 refine RunD.op 11 [false, false, false, false] rfl rfl rfl kr kr (OpJ.store1 T112 rfl rfl rfl up (by simp) ⟨po, ?_⟩)
 refine kd [] rfl ?_
 exact ret_out (a12, c12, a23, c23) .nil trivial rfl gv
theorem c_both (x : Colm) (lim : Int) (hlim : 0 ≤ lim ∧ lim ≤ 1000000000000000) (h1 : ∀ n ∈ x.xs, i64 n) (h2 : ∀ n ∈ x.ys, i64 n) (hl : x.xs.length ≤ 100000 ∧ x.ys.length ≤ 100000) : AC Tryz.prog 58 ⟨[.pointer (some ⟨x.b, 0, none⟩), I lim]⟩ (stars [CB x.b x.a1 x.xs.length x.c1 x.a2 x.ys.length x.c2, own 3 1 x.a1 x.xs.length x.c1 (x.xs.flatMap Iv), own 3 1 x.a2 x.ys.length x.c2 (x.ys.flatMap Iv)]) (Ret (.tuple ⟨[I (if (wiB x.xs.sum lim && wiB x.ys.sum lim) = true then x.xs.sum else 0), I (if (wiB x.xs.sum lim && wiB x.ys.sum lim) = true then x.ys.sum else 0), I (if (wiB x.xs.sum lim && wiB x.ys.sum lim) = true then 0 else 4)]⟩) [CB x.b x.a1 x.xs.length x.c1 x.a2 x.ys.length x.c2, own 3 1 x.a1 x.xs.length x.c1 (x.xs.flatMap Iv), own 3 1 x.a2 x.ys.length x.c2 (x.ys.flatMap Iv)]) := by
 refine AC.go Tryz.func58 rfl (Nat.le_of_ble_eq_true rfl) fun β => ?_
 refine sr ?_
 refine sx 3 ?_
 refine kp [0, 1] rfl ?_
 refine sr ?_
 refine sx 5 ?_
 refine RunL.call C102 rfl rfl rfl (c_esum lim hlim _ x.a1 x.c1 x.xs own.rds h1 (by omega)) tks ?_
 refine sx 5 ?_
 refine kp [0, 1, 4, 6] rfl ?_
 refine Run.seq ?_
 refine sr ?_
 refine sx 2 ?_
 refine kp [0, 1, 4, 6, 17] rfl ?_
 first | refine Run.if rfl (fun h1 => ?_) (fun h1 => ?_) | refine Run.cond rfl (fun h1 => ?_) (fun h1 => ?_)
 refine sr ?_
 refine sx 4 ?_
 refine kp [4, 5, 6] rfl ?_
 refine Run.ret ?_
 exact ret_one (.tmp rfl (.tmp rfl (.tmp rfl .nil))) (by cases ha : wiB x.xs.sum lim <;> cases hb : wiB x.ys.sum lim <;> simp_all [tup]) gv
 refine Run.skip ?_
 refine sr ?_
 refine sx 5 ?_
 refine RunL.call C102 rfl rfl rfl (c_esum lim hlim _ x.a2 x.c2 x.ys own.rds h2 (by omega)) tks ?_
 refine sx 5 ?_
 refine kp [4, 5, 6] rfl ?_
 refine Run.seq ?_
 refine sr ?_
 refine sx 2 ?_
 refine kp [4, 5, 6, 29] rfl ?_
 first | refine Run.if rfl (fun h2 => ?_) (fun h2 => ?_) | refine Run.cond rfl (fun h2 => ?_) (fun h2 => ?_)
 refine sr ?_
 refine sx 4 ?_
 refine kp [4, 5, 6] rfl ?_
 refine Run.ret ?_
 exact ret_one (.tmp rfl (.tmp rfl (.tmp rfl .nil))) (by cases ha : wiB x.xs.sum lim <;> cases hb : wiB x.ys.sum lim <;> simp_all [tup]) gv
 refine Run.skip ?_
 refine sr ?_
 refine sx 5 ?_
 refine kp [4, 5, 6] rfl ?_
 refine Run.ret ?_
 exact ret_one (.tmp rfl (.tmp rfl (.tmp rfl .nil))) (by cases ha : wiB x.xs.sum lim <;> cases hb : wiB x.ys.sum lim <;> simp_all [tup]) gv
end
instance mpCol : MPI Tryz.prog 115 9 119 := ⟨by kernel_rfl⟩
instance zvCol : ZVI Tryz.prog 119 (.pointer none) := ⟨by kernel_rfl⟩
instance uvStr : UI Tryz.prog 9 .string := ⟨by kernel_rfl⟩
section
attribute [local irreducible] OpJ RunL Run RunD DetJ pt own star Rd RdS
theorem c_columns (R : HP) (oa : Option Addr) (cap : Nat) (ls : List Ln) (hR : RdS R oa (ls.flatMap Ln.c)) (hl : ls.length ≤ 1000) : AC Tryz.prog 56 ⟨[.slice oa ls.length cap, .func (.func 57) #[] #[]]⟩ (stars [R]) (Outs (fun y : Nat × List Colm × Option Addr × Nat => Kinv y.2.1 ls) (fun y => .tuple ⟨[.map (some y.1), .slice y.2.2.1 (y.2.1.map Colm.cur).length y.2.2.2]⟩) (fun y => [amap y.1 cbF cbG (y.2.1.map Colm.cb), big colH y.2.1, own 9 1 y.2.2.1 (y.2.1.map Colm.cur).length y.2.2.2 ((y.2.1.map Colm.cur).flatMap Sb), R])) := by
 refine AC.go Tryz.func56 rfl (Nat.le_of_ble_eq_true rfl) fun β => ?_
 refine sr ?_
 refine sx 2 ?_
 refine kp [0, 1] rfl ?_
 refine sr ?_
 refine RunL.op rfl rfl (OpJ.makeMap fun bm => ?_)
 refine asg rfl rfl ?_
 refine kp [0, 1, 6] rfl ?_
 refine sr ?_
 refine asg rfl rfl ?_
 refine kp [0, 1, 6, 7] rfl ?_
 refine Run.seq ?_
 refine sr ?_
 refine RunL.ownNil 9 1 ?_
 refine RunL.bigNil colH ?_
 refine sx 3 ?_
 refine kp [1, 6, 7, 12, 13, 14] rfl ?_
 refine Run.block ?_
 refine Run.weak (L' := [amap bm cbF cbG (([] : List Colm).map Colm.cb), big colH [], own 9 1 none (([] : List Colm).map Colm.cur).length 0 ((([] : List Colm).map Colm.cur).flatMap Sb), R]) (fun _ _ h => h) gv ?_
 refine Run.loop (fun mm E L => ∃ (i : Nat) (ks : List Colm) (ka : Option Addr) (kc : Nat), mm = ls.length - i ∧ i ≤ ls.length ∧ Kinv ks (ls.take i) ∧ E = [(1, .func (.func 57) #[] #[]), (6, .map (some bm)), (7, .slice ka (ks.map Colm.cur).length kc), (12, .slice oa ls.length cap), (13, I ls.length), (14, I i)] ∧ L = [amap bm cbF cbG (ks.map Colm.cb), big colH ks, own 9 1 ka (ks.map Colm.cur).length kc ((ks.map Colm.cur).flatMap Sb), R]) ⟨_, 0, [], none, 0, rfl, Nat.zero_le _, Kinv.nil, rfl, rfl⟩ ?_
 rintro _ _ _ ⟨i, ks, ka, kc, rfl, hi, hK, rfl, rfl⟩
 refine sr ?_
 refine sx 1 ?_
 refine kp [1, 6, 7, 12, 13, 14, 15] rfl ?_
 refine Run.seq ?_
 first | refine Run.if rfl (fun h1 => ?_) (fun h1 => ?_) | refine Run.cond rfl (fun h1 => ?_) (fun h1 => ?_)
 refine Run.skip ?_
 refine Run.seq ?_
 refine Run.block ?_
 refine sr ?_
 obtain ⟨l, hli⟩ := get_ex (xs := ls) (i := i) (by omega)
 refine RunL.rdOpen pk hR (flat_ne (k := 7) (fun _ => rfl) (by decide) hli) fun b o e hrd => ?_
 subst e
 refine sx 1 ?_
 refine RunL.op rfl rfl (OpJ.loadA inferInstance rfl pk (hrd.elem (fun _ => rfl) hli) rfl ?_)
 refine RunL.op rfl rfl (OpJ.alloc Z73 fun b9 => ?_)
 refine RunL.op rfl rfl (OpJ.storeW T73 rfl rfl rfl rfl (by simp [Value.oneCell', Tg.c, Ln.c, En.c, Ac.c, Cl.c, Ky.c, Qy.c, Sb, Iv]) up ?_)
 refine kp [1, 6, 7, 9, 12, 13, 14] rfl ?_
 refine sr ?_
 refine sx 2 ?_
 refine RunL.call C57 rfl rfl rfl (c_currency l) .nil ?_
 refine asg rfl rfl ?_
 refine kp [1, 6, 7, 9, 10, 12, 13, 14] rfl ?_
 refine Run.seq ?_
 refine sr ?_
 refine sx 2 ?_
 refine RunL.op rfl rfl (OpJ.lookup1 keyStr inferInstance inferInstance inferInstance rfl rfl pk ?_)
 rcases hk : kAt (Prod.fst : ByteArray × Nat → ByteArray) l.cur (ks.map Colm.cb) with _ | q
 refine sx 1 ?_
 refine kp [1, 6, 7, 9, 10, 12, 13, 14, 24] rfl ?_
 refine Run.true rfl ?_
 refine sr ?_
 refine sx 3 ?_
 refine RunL.op rfl rfl (OpJ.boxA rfl fun b28 => ?_)
 refine RunL.op rfl rfl (OpJ.mapUpdate (((l.cur, b28)) : ByteArray × Nat) keyStr inferInstance inferInstance rfl rfl rfl up ?_)
 refine kp [1, 6, 7, 9, 10, 12, 13, 14] rfl ?_
 refine Run.region ?_
 refine sx 2 ?_
 refine RunL.op rfl rfl (OpJ.buildSlice1 S55 rfl rfl rfl (by decide) (by decide) Z9 rfl fun b31 => ?_)
 have hkl := hK.lenk
 rw [List.length_take] at hkl
 have hml : (ks.map Colm.cur).length = ks.length := List.length_map ..
 refine RunL.op rfl rfl (OpJ.append1 l.cur S55 M9 rfl rfl pk pk rfl rfl (by simp [Value.oneCell', Tg.c, Ln.c, En.c, Ac.c, Cl.c, Ky.c, Qy.c, Sb, Iv]) rfl (by omega) (by omega) fun a32 c32 => ?_)
 refine asg rfl rfl ?_
 refine kp [1, 6, 7, 9, 10, 12, 13, 14] rfl ?_
 refine Run.region ?_
 rw [kSet_new hk]
 refine RunL.ownNil 3 1 ?_
 refine RunL.ownNil 3 1 ?_
 have hk2 := kAt_new (y := (l.cur, b28)) hk rfl
 refine sx 2 ?_
 refine RunL.op rfl rfl (OpJ.lookup1 keyStr inferInstance inferInstance inferInstance rfl rfl pk ?_)
 refine RunL.set (v := .pointer (some ⟨b28, 0, none⟩)) (by rw [hk2]) ?_
 refine sx 1 ?_
 refine RunL.callX C101 rfl rfl rfl (c_add ⟨l.cur, b28, none, 0, none, 0, [], []⟩ l (by simp)) tks fun ⟨a1, c1, a2, c2⟩ _ => ?_
 refine RunL.packs [CB b28 a1 [l.amt].length c1 a2 [l.base].length c2, own 3 1 a1 [l.amt].length c1 ([l.amt].flatMap Iv), own 3 1 a2 [l.base].length c2 ([l.base].flatMap Iv)] tks ?_
 refine RunL.bigApp colH ks ⟨l.cur, b28, a1, c1, a2, c2, [l.amt], [l.base]⟩ pk pk ?_
 refine kp [1, 6, 7, 12, 13, 14] rfl ?_
 refine Run.region ?_
 refine sx 2 ?_
 have hm1 : (ks ++ [(⟨l.cur, b28, a1, c1, a2, c2, [l.amt], [l.base]⟩ : Colm)]).map Colm.cb = ks.map Colm.cb ++ [(l.cur, b28)] := by simp [Colm.cb]
 have hm2 : (ks ++ [(⟨l.cur, b28, a1, c1, a2, c2, [l.amt], [l.base]⟩ : Colm)]).map Colm.cur = ks.map Colm.cur ++ [l.cur] := by simp
 rw [← hm1, ← hm2]
 exact RunL.next (Keep.sub (kt (ks := [1, 6, 7, 12, 13, 14]) rfl)) _ ⟨_, by omega, i + 1, _, _, _, rfl, by omega, (by rw [take_step hli]; exact hK.new (fun x hx e => kAt_none hk (x.cb) (List.mem_map_of_mem hx) e) b28 a1 c1 a2 c2), rfl, rfl⟩ gv
 obtain ⟨iq, x, rfl, hkx, hxc⟩ := col_find hk
 refine sx 1 ?_
 refine kp [1, 6, 7, 9, 10, 12, 13, 14, 24] rfl ?_
 refine Run.false rfl ?_
 refine Run.skip ?_
 refine Run.region ?_
 refine sx 2 ?_
 refine RunL.op rfl rfl (OpJ.lookup1 keyStr inferInstance inferInstance inferInstance rfl rfl pk ?_)
 refine RunL.set (v := .pointer (some ⟨x.b, 0, none⟩)) (by rw [hk]) ?_
 refine sx 1 ?_
 refine RunL.bigOut pk hkx ?_
 refine RunL.unstar (As := [CB x.b x.a1 x.xs.length x.c1 x.a2 x.ys.length x.c2, own 3 1 x.a1 x.xs.length x.c1 (x.xs.flatMap Iv), own 3 1 x.a2 x.ys.length x.c2 (x.ys.flatMap Iv)]) pk ?_
 have hxl := hK.len (List.mem_of_getElem? hkx)
 rw [List.length_take] at hxl
 refine RunL.callX C101 rfl rfl rfl (c_add x l (by omega)) tks fun ⟨a1, c1, a2, c2⟩ _ => ?_
 refine RunL.packs [CB x.b a1 (x.xs ++ [l.amt]).length c1 a2 (x.ys ++ [l.base]).length c2, own 3 1 a1 (x.xs ++ [l.amt]).length c1 ((x.xs ++ [l.amt]).flatMap Iv), own 3 1 a2 (x.ys ++ [l.base]).length c2 ((x.ys ++ [l.base]).flatMap Iv)] tks ?_
 refine RunL.bigIn colH ks iq ⟨x.cur, x.b, a1, c1, a2, c2, x.xs ++ [l.amt], x.ys ++ [l.base]⟩ pk pk (List.getElem?_eq_some_iff.1 hkx).1 ?_
 refine kp [1, 6, 7, 12, 13, 14] rfl ?_
 refine Run.region ?_
 refine sx 2 ?_
 obtain ⟨hm1, hm2⟩ := col_set (y := ⟨x.cur, x.b, a1, c1, a2, c2, x.xs ++ [l.amt], x.ys ++ [l.base]⟩) hkx rfl rfl
 rw [← hm1, ← hm2]
 exact RunL.next (Keep.sub (kt (ks := [1, 6, 7, 12, 13, 14]) rfl)) _ ⟨_, by omega, i + 1, _, _, _, rfl, by omega, (by rw [take_step hli]; exact hK.old hkx hxc a1 c1 a2 c2), rfl, rfl⟩ gv
 refine Run.exit ?_
 refine sr ?_
 refine sx 4 ?_
 refine kp [4, 5] rfl ?_
 refine Run.ret ?_
 exact ret_out (bm, ks, ka, kc) (.tmp rfl (.tmp rfl .nil)) (by rw [List.take_of_length_le (by omega)] at hK; exact hK) rfl gv
theorem c_Balanced (R : HP) (oa : Option Addr) (cap : Nat) (ls : List Ln) (hR : RdS R oa (ls.flatMap Ln.c)) (hl : ls.length ≤ 1000) (hb : ∀ l ∈ ls, i64 l.amt ∧ i64 l.base) : AC Tryz.prog 26 ⟨[.slice oa ls.length cap]⟩ (stars [R]) (Ret (Bo (balB ls)) [R]) := by
 refine AC.go Tryz.func26 rfl (Nat.le_of_ble_eq_true rfl) fun β => ?_
 refine sr ?_
 refine asg rfl rfl ?_
 refine kp [0] rfl ?_
 refine sr ?_
 refine mvo rfl rfl ?_
 refine RunL.callX C56 rfl rfl rfl (c_columns R _ _ _ (by assumption) (by omega)) tks fun ⟨bm, ks, ka, kc⟩ hK => ?_
 refine sx 5 ?_
 refine kp [3, 4] rfl ?_
 refine Run.seq ?_
 refine sr ?_
 have hK2 : Kinv ks ls := hK
 have hkl : ks.length ≤ ls.length := hK.lenk
 have hml : (ks.map Colm.cur).length = ks.length := List.length_map ..
 refine sx 3 ?_
 refine kp [3, 15, 16, 17] rfl ?_
 refine Run.block ?_
 refine Run.loop (fun mm E L => ∃ i : Nat, mm = ks.length - i ∧ i ≤ ks.length ∧ (∀ (j : Nat) (y : Colm), j < i → ks[j]? = some y → y.xs.sum = 0 ∧ y.ys.sum = 0) ∧ E = [(3, .map (some bm)), (15, .slice ka (ks.map Colm.cur).length kc), (16, I (ks.map Colm.cur).length), (17, I i)] ∧ L = [amap bm cbF cbG (ks.map Colm.cb), big colH ks, own 9 1 ka (ks.map Colm.cur).length kc ((ks.map Colm.cur).flatMap Sb), R]) ⟨_, 0, rfl, Nat.zero_le _, fun _ _ h => by omega, rfl, rfl⟩ ?_
 rintro _ _ _ ⟨i, rfl, hi, hI0, rfl, rfl⟩
 refine sr ?_
 refine sx 1 ?_
 refine kp [3, 15, 16, 17, 18] rfl ?_
 refine Run.seq ?_
 first | refine Run.if rfl (fun h1 => ?_) (fun h1 => ?_) | refine Run.cond rfl (fun h1 => ?_) (fun h1 => ?_)
 refine Run.skip ?_
 refine Run.seq ?_
 refine Run.block ?_
 refine sr ?_
 obtain ⟨x, hkx⟩ := get_ex (xs := ks) (i := i) (by omega)
 have hkn : (ks.map Colm.cur)[i]? = some x.cur := by rw [List.getElem?_map, hkx]; rfl
 have hxm := List.mem_of_getElem? hkx
 have hxl := hK.len hxm
 have hxv := hK.val x hxm
 have hin : ∀ n, (n ∈ x.xs → i64 n) ∧ (n ∈ x.ys → i64 n) := fun n => ⟨fun h => by { rw [hxv.1] at h; obtain ⟨l, hlm, rfl⟩ := List.mem_map.1 h; exact (hb l (List.mem_filter.1 hlm).1).1 }, fun h => by { rw [hxv.2] at h; obtain ⟨l, hlm, rfl⟩ := List.mem_map.1 h; exact (hb l (List.mem_filter.1 hlm).1).2 }⟩
 have hfnd := hK.find hkx
 refine RunL.ownAddr pk (flat_ne (k := 1) (fun _ => rfl) (by decide) hkn) fun b e hcap => ?_
 subst e
 refine sx 1 ?_
 refine RunL.op rfl rfl (OpJ.load1 inferInstance rfl pk (own.el (enc := Sb) hkn (by decide) (fun _ => rfl)) ?_)
 refine asg rfl rfl ?_
 refine kp [3, 6, 15, 16, 17] rfl ?_
 refine sr ?_
 refine sx 2 ?_
 refine RunL.op rfl rfl (OpJ.lookup1 keyStr inferInstance inferInstance inferInstance rfl rfl pk ?_)
 refine RunL.set (v := .pointer (some ⟨x.b, 0, none⟩)) (by rw [hfnd]) ?_
 refine RunL.bigOut pk hkx ?_
 refine RunL.unstar (As := [CB x.b x.a1 x.xs.length x.c1 x.a2 x.ys.length x.c2, own 3 1 x.a1 x.xs.length x.c1 (x.xs.flatMap Iv), own 3 1 x.a2 x.ys.length x.c2 (x.ys.flatMap Iv)]) pk ?_
 refine RunL.call C58 rfl rfl rfl (c_both x 0 (by decide) (fun n => (hin n).1) (fun n => (hin n).2) (by omega)) tks ?_
 refine RunL.packs [CB x.b x.a1 x.xs.length x.c1 x.a2 x.ys.length x.c2, own 3 1 x.a1 x.xs.length x.c1 (x.xs.flatMap Iv), own 3 1 x.a2 x.ys.length x.c2 (x.ys.flatMap Iv)] tks ?_
 refine RunL.bigIn colH ks i x pk pk (by omega) ?_
 rw [setId hkx]
 refine sx 7 ?_
 refine kp [3, 9, 15, 16, 17] rfl ?_
 refine sr ?_
 refine sx 2 ?_
 refine kp [3, 15, 16, 17, 30] rfl ?_
 first | refine Run.if rfl (fun h2 => ?_) (fun h2 => ?_) | refine Run.cond rfl (fun h2 => ?_) (fun h2 => ?_)
 refine sr ?_
 refine asg rfl rfl ?_
 refine kp [2] rfl ?_
 refine Run.ret ?_
 exact ret_one (.tmp rfl .nil) (by rw [Bool.eq_false_iff.2 (fun h => both_nz (by simpa using h2) (hK.bal.1 h x hxm))]; rfl) gv
 refine Run.skip ?_
 refine Run.region ?_
 refine sx 2 ?_
 exact RunL.next (Keep.sub (kt (ks := [3, 15, 16, 17]) rfl)) _ ⟨_, by omega, i + 1, rfl, by omega, (fun j y hj hy => by { by_cases e : j = i; (subst e; rw [hkx] at hy; cases hy; exact both_zero (by simpa using h2)); exact hI0 j y (by omega) hy }), rfl, rfl⟩ gv
 refine Run.exit ?_
 refine sr ?_
 refine asg rfl rfl ?_
 refine kp [2] rfl ?_
 refine Run.ret ?_
 exact ret_one (.tmp rfl .nil) (by rw [hK2.bal.2 (fun x hx => by { obtain ⟨j, hj, rfl⟩ := List.getElem_of_mem hx; exact hI0 j _ (by omega) (List.getElem?_eq_getElem hj) })]; rfl) gv
theorem c_isDay (n : Int) (R : HP) (hR : Rd R ⟨0, 0, none⟩ lensC) : AC Tryz.prog 129 ⟨[I n]⟩ (stars [R]) (Ret (Bo (inB n 0 109572)) [R]) := by
 refine AC.go Tryz.func129 rfl (Nat.le_of_ble_eq_true rfl) fun β => ?_
 refine sr ?_
 refine asg rfl rfl ?_
 refine kp [0] rfl ?_
 refine sr ?_
 refine mvo rfl rfl ?_
 refine RunL.callX C90 rfl rfl rfl (c_Date _ _ hR) tks fun x hx => ?_
 refine sx 3 ?_
 refine RunL.op rfl rfl (OpJ.alloc Z157 fun b3 => ?_)
 refine RunL.op rfl rfl (OpJ.storeW T157 rfl rfl rfl rfl (by simp [Value.oneCell', Tg.c, Ln.c, En.c, Ac.c, Cl.c, Ky.c, Qy.c, Sb, Iv]) up ?_)
 refine asg rfl rfl ?_
 refine kp [4] rfl ?_
 refine sr ?_
 refine sx 3 ?_
 refine kp [2] rfl ?_
 refine Run.ret ?_
 exact ret_one (.tmp rfl .nil) (congrArg Bo (by cases inB n 0 109572 <;> rfl)) gv
theorem c_Line (l : Ln) (R : HP) (hT : RdS R l.ta (l.tags.flatMap Tg.c)) (hz : (l.cur.size : Int) ≤ 9223372036854775807) : AC Tryz.prog 82 ⟨[.agg ⟨l.c⟩]⟩ (stars [R]) (Ret (I (lineE l)) [R]) := by
 refine AC.go Tryz.func82 rfl (Nat.le_of_ble_eq_true rfl) fun β => ?_
 refine sr ?_
 refine RunL.op rfl rfl (OpJ.boxA rfl fun b1 => ?_)
 refine asg rfl rfl ?_
 refine kp [1] rfl ?_
 refine Run.seq ?_
 refine Run.block ?_
 refine sr ?_
 refine sx 2 ?_
 refine RunL.call C128 rfl rfl rfl (c_Code _) .nil ?_
 refine sx 2 ?_
 first | refine RunL.splitP (t := 8) rfl (fun g1 => ?_) (fun g1 => ?_) | refine RunL.split (t := 8) rfl (fun g1 => ?_) (fun g1 => ?_)
 refine sx 12 ?_
 refine kp [1, 3] rfl ?_
 refine Run.true rfl ?_
 refine sr ?_
 refine asg rfl rfl ?_
 refine kp [2] rfl ?_
 refine Run.ret ?_
 exact ret_one (.tmp rfl .nil) (congrArg I (by unfold lineE; simp_all)) gv
 refine sx 2 ?_
 refine RunL.callG C131 rfl rfl rfl rfl rfl (c_opt _) .nil ?_
 refine sx 3 ?_
 first | refine RunL.splitP (t := 14) rfl (fun g2 => ?_) (fun g2 => ?_) | refine RunL.split (t := 14) rfl (fun g2 => ?_) (fun g2 => ?_)
 refine sx 6 ?_
 refine kp [1, 3] rfl ?_
 refine Run.true rfl ?_
 refine sr ?_
 refine asg rfl rfl ?_
 refine kp [2] rfl ?_
 refine Run.ret ?_
 exact ret_one (.tmp rfl .nil) (congrArg I (by unfold lineE; simp_all)) gv
 refine sx 2 ?_
 refine RunL.callG C131 rfl rfl rfl rfl rfl (c_opt _) .nil ?_
 refine sx 3 ?_
 refine kp [1, 3] rfl ?_
 first | refine Run.if rfl (fun h3 => ?_) (fun h3 => ?_) | refine Run.cond rfl (fun h3 => ?_) (fun h3 => ?_)
 refine sr ?_
 refine asg rfl rfl ?_
 refine kp [2] rfl ?_
 refine Run.ret ?_
 exact ret_one (.tmp rfl .nil) (congrArg I (by unfold lineE; simp_all)) gv
 refine sr ?_
 refine sx 2 ?_
 refine RunL.call C113 rfl rfl rfl (c_Cur _ (by omega)) .nil ?_
 refine sx 2 ?_
 refine kp [1, 20] rfl ?_
 first | refine Run.if rfl (fun h4 => ?_) (fun h4 => ?_) | refine Run.cond rfl (fun h4 => ?_) (fun h4 => ?_)
 refine sr ?_
 refine asg rfl rfl ?_
 refine kp [2] rfl ?_
 refine Run.ret ?_
 exact ret_one (.tmp rfl .nil) (congrArg I (by unfold lineE; simp_all)) gv
 refine sr ?_
 refine sx 2 ?_
 refine RunL.call C132 rfl rfl rfl (c_within _ _ (by omega)) .nil ?_
 refine sx 2 ?_
 first | refine RunL.splitP (t := 30) rfl (fun g5 => ?_) (fun g5 => ?_) | refine RunL.split (t := 30) rfl (fun g5 => ?_) (fun g5 => ?_)
 refine sx 6 ?_
 refine kp [1, 25] rfl ?_
 refine Run.true rfl ?_
 refine sr ?_
 refine asg rfl rfl ?_
 refine kp [2] rfl ?_
 refine Run.ret ?_
 exact ret_one (.tmp rfl .nil) (congrArg I (by unfold lineE; simp_all)) gv
 refine sx 2 ?_
 refine RunL.callG C132 rfl rfl rfl rfl rfl (c_within _ _ (by omega)) .nil ?_
 refine sx 3 ?_
 refine kp [1, 25] rfl ?_
 first | refine Run.if rfl (fun h6 => ?_) (fun h6 => ?_) | refine Run.cond rfl (fun h6 => ?_) (fun h6 => ?_)
 refine sr ?_
 refine asg rfl rfl ?_
 refine kp [2] rfl ?_
 refine Run.ret ?_
 exact ret_one (.tmp rfl .nil) (congrArg I (by unfold lineE; simp_all)) gv
 refine sr ?_
 refine sx 4 ?_
 first | refine RunL.splitP (t := 40) rfl (fun g7 => ?_) (fun g7 => ?_) | refine RunL.split (t := 40) rfl (fun g7 => ?_) (fun g7 => ?_)
 refine sx 5 ?_
 refine kp [1, 36] rfl ?_
 first | refine Run.if rfl (fun h8 => ?_) (fun h8 => ?_) | refine Run.cond rfl (fun h8 => ?_) (fun h8 => ?_)
 refine sr ?_
 refine asg rfl rfl ?_
 refine kp [2] rfl ?_
 refine Run.ret ?_
 exact ret_one (.tmp rfl .nil) (congrArg I (by unfold lineE; simp_all)) gv
 refine sr ?_
 refine sx 2 ?_
 refine RunL.call C125 rfl rfl rfl (c_dRight R _ _ _ hT) tks ?_
 refine sx 2 ?_
 refine kp [45] rfl ?_
 first | refine Run.if rfl (fun h9 => ?_) (fun h9 => ?_) | refine Run.cond rfl (fun h9 => ?_) (fun h9 => ?_)
 refine sr ?_
 refine asg rfl rfl ?_
 refine kp [2] rfl ?_
 refine Run.ret ?_
 exact ret_one (.tmp rfl .nil) (congrArg I (by unfold lineE; simp_all)) gv
 refine Run.skip ?_
 refine sr ?_
 refine asg rfl rfl ?_
 refine kp [2] rfl ?_
 refine Run.ret ?_
 exact ret_one (.tmp rfl .nil) (congrArg I (by unfold lineE; simp_all)) gv
 refine sx 5 ?_
 refine kp [1, 36] rfl ?_
 refine Run.false rfl ?_
 refine sr ?_
 refine sx 2 ?_
 refine RunL.call C125 rfl rfl rfl (c_dRight R _ _ _ hT) tks ?_
 refine sx 2 ?_
 refine kp [45] rfl ?_
 first | refine Run.if rfl (fun h10 => ?_) (fun h10 => ?_) | refine Run.cond rfl (fun h10 => ?_) (fun h10 => ?_)
 refine sr ?_
 refine asg rfl rfl ?_
 refine kp [2] rfl ?_
 refine Run.ret ?_
 exact ret_one (.tmp rfl .nil) (congrArg I (by unfold lineE; simp_all)) gv
 refine Run.skip ?_
 refine sr ?_
 refine asg rfl rfl ?_
 refine kp [2] rfl ?_
 refine Run.ret ?_
 exact ret_one (.tmp rfl .nil) (congrArg I (by unfold lineE; simp_all)) gv
theorem c_head (e : En) (R : HP) (hR : Rd R ⟨0, 0, none⟩ lensC) : AC Tryz.prog 81 ⟨[.agg ⟨e.c⟩]⟩ (stars [R]) (Ret (I (headE e)) [R]) := by
 refine AC.go Tryz.func81 rfl (Nat.le_of_ble_eq_true rfl) fun β => ?_
 refine sr ?_
 refine RunL.op rfl rfl (OpJ.boxA rfl fun b1 => ?_)
 refine asg rfl rfl ?_
 refine kp [1] rfl ?_
 refine Run.seq ?_
 refine Run.block ?_
 refine sr ?_
 refine sx 4 ?_
 first | refine RunL.splitP (t := 7) rfl (fun g1 => ?_) (fun g1 => ?_) | refine RunL.split (t := 7) rfl (fun g1 => ?_) (fun g1 => ?_)
 refine sx 15 ?_
 refine kp [1, 3] rfl ?_
 refine Run.true rfl ?_
 refine sr ?_
 refine asg rfl rfl ?_
 refine kp [2] rfl ?_
 refine Run.ret ?_
 exact ret_one (.tmp rfl .nil) (congrArg I (by unfold headE; simp_all <;> omega)) gv
 refine sx 5 ?_
 first | refine RunL.splitP (t := 12) rfl (fun g2 => ?_) (fun g2 => ?_) | refine RunL.split (t := 12) rfl (fun g2 => ?_) (fun g2 => ?_)
 refine sx 10 ?_
 refine kp [1, 3] rfl ?_
 refine Run.true rfl ?_
 refine sr ?_
 refine asg rfl rfl ?_
 refine kp [2] rfl ?_
 refine Run.ret ?_
 exact ret_one (.tmp rfl .nil) (congrArg I (by unfold headE; simp_all <;> omega)) gv
 refine sx 5 ?_
 first | refine RunL.splitP (t := 17) rfl (fun g3 => ?_) (fun g3 => ?_) | refine RunL.split (t := 17) rfl (fun g3 => ?_) (fun g3 => ?_)
 refine sx 5 ?_
 refine kp [1, 3] rfl ?_
 refine Run.true rfl ?_
 refine sr ?_
 refine asg rfl rfl ?_
 refine kp [2] rfl ?_
 refine Run.ret ?_
 exact ret_one (.tmp rfl .nil) (congrArg I (by unfold headE; simp_all <;> omega)) gv
 refine sx 5 ?_
 refine kp [1, 3] rfl ?_
 first | refine Run.if rfl (fun h4 => ?_) (fun h4 => ?_) | refine Run.cond rfl (fun h4 => ?_) (fun h4 => ?_)
 refine sr ?_
 refine asg rfl rfl ?_
 refine kp [2] rfl ?_
 refine Run.ret ?_
 exact ret_one (.tmp rfl .nil) (congrArg I (by unfold headE; simp_all <;> omega)) gv
 refine sr ?_
 refine sx 2 ?_
 refine RunL.call C128 rfl rfl rfl (c_Code _) .nil ?_
 refine sx 2 ?_
 first | refine RunL.splitP (t := 27) rfl (fun g5 => ?_) (fun g5 => ?_) | refine RunL.split (t := 27) rfl (fun g5 => ?_) (fun g5 => ?_)
 refine sx 6 ?_
 refine kp [1, 22] rfl ?_
 refine Run.true rfl ?_
 refine sr ?_
 refine asg rfl rfl ?_
 refine kp [2] rfl ?_
 refine Run.ret ?_
 exact ret_one (.tmp rfl .nil) (congrArg I (by unfold headE; simp_all <;> omega)) gv
 refine sx 2 ?_
 refine RunL.callG C128 rfl rfl rfl rfl rfl (c_Code _) .nil ?_
 refine sx 3 ?_
 refine kp [1, 22] rfl ?_
 first | refine Run.if rfl (fun h6 => ?_) (fun h6 => ?_) | refine Run.cond rfl (fun h6 => ?_) (fun h6 => ?_)
 refine sr ?_
 refine asg rfl rfl ?_
 refine kp [2] rfl ?_
 refine Run.ret ?_
 exact ret_one (.tmp rfl .nil) (congrArg I (by unfold headE; simp_all <;> omega)) gv
 refine sr ?_
 refine sx 2 ?_
 refine RunL.call C129 rfl rfl rfl (c_isDay _ R hR) tks ?_
 refine sx 2 ?_
 first | refine RunL.splitP (t := 38) rfl (fun g7 => ?_) (fun g7 => ?_) | refine RunL.split (t := 38) rfl (fun g7 => ?_) (fun g7 => ?_)
 refine sx 6 ?_
 refine kp [1, 33] rfl ?_
 refine Run.true rfl ?_
 refine sr ?_
 refine asg rfl rfl ?_
 refine kp [2] rfl ?_
 refine Run.ret ?_
 exact ret_one (.tmp rfl .nil) (congrArg I (by unfold headE; simp_all <;> omega)) gv
 refine sx 2 ?_
 refine RunL.callG C129 rfl rfl rfl rfl rfl (c_isDay _ R hR) tks ?_
 refine sx 3 ?_
 refine kp [1, 33] rfl ?_
 first | refine Run.if rfl (fun h8 => ?_) (fun h8 => ?_) | refine Run.cond rfl (fun h8 => ?_) (fun h8 => ?_)
 refine sr ?_
 refine asg rfl rfl ?_
 refine kp [2] rfl ?_
 refine Run.ret ?_
 exact ret_one (.tmp rfl .nil) (congrArg I (by unfold headE; simp_all <;> omega)) gv
 refine sr ?_
 refine sx 4 ?_
 first | refine RunL.splitP (t := 48) rfl (fun g9 => ?_) (fun g9 => ?_) | refine RunL.split (t := 48) rfl (fun g9 => ?_) (fun g9 => ?_)
 refine sx 5 ?_
 refine kp [1, 44] rfl ?_
 refine Run.true rfl ?_
 refine sr ?_
 refine asg rfl rfl ?_
 refine kp [2] rfl ?_
 refine Run.ret ?_
 exact ret_one (.tmp rfl .nil) (congrArg I (by unfold headE; simp_all <;> omega)) gv
 refine sx 5 ?_
 refine kp [1, 44] rfl ?_
 first | refine Run.if rfl (fun h10 => ?_) (fun h10 => ?_) | refine Run.cond rfl (fun h10 => ?_) (fun h10 => ?_)
 refine sr ?_
 refine asg rfl rfl ?_
 refine kp [2] rfl ?_
 refine Run.ret ?_
 exact ret_one (.tmp rfl .nil) (congrArg I (by unfold headE; simp_all <;> omega)) gv
 refine sr ?_
 refine sx 2 ?_
 refine RunL.call C130 rfl rfl rfl (c_Plain _) .nil ?_
 refine sx 2 ?_
 refine kp [1, 53] rfl ?_
 first | refine Run.if rfl (fun h11 => ?_) (fun h11 => ?_) | refine Run.cond rfl (fun h11 => ?_) (fun h11 => ?_)
 refine sr ?_
 refine asg rfl rfl ?_
 refine kp [2] rfl ?_
 refine Run.ret ?_
 exact ret_one (.tmp rfl .nil) (congrArg I (by unfold headE; simp_all <;> omega)) gv
 refine sr ?_
 refine sx 5 ?_
 refine kp [1, 58] rfl ?_
 first | refine Run.if rfl (fun h12 => ?_) (fun h12 => ?_) | refine Run.cond rfl (fun h12 => ?_) (fun h12 => ?_)
 refine sr ?_
 refine asg rfl rfl ?_
 refine kp [2] rfl ?_
 refine Run.ret ?_
 exact ret_one (.tmp rfl .nil) (congrArg I (by unfold headE; simp_all <;> omega)) gv
 refine sr ?_
 refine sx 5 ?_
 refine kp [63] rfl ?_
 first | refine Run.if rfl (fun h13 => ?_) (fun h13 => ?_) | refine Run.cond rfl (fun h13 => ?_) (fun h13 => ?_)
 refine sr ?_
 refine asg rfl rfl ?_
 refine kp [2] rfl ?_
 refine Run.ret ?_
 exact ret_one (.tmp rfl .nil) (congrArg I (by unfold headE; simp_all <;> omega)) gv
 refine Run.skip ?_
 refine sr ?_
 refine asg rfl rfl ?_
 refine kp [2] rfl ?_
 refine Run.ret ?_
 exact ret_one (.tmp rfl .nil) (congrArg I (by unfold headE; simp_all <;> omega)) gv
theorem c_Check (e : En) (R : HP) (hR : Rd R ⟨0, 0, none⟩ lensC) (he : e.rd R) : AC Tryz.prog 39 ⟨[.agg ⟨e.c⟩]⟩ (stars [R]) (Ret (.tuple ⟨[I (chkN e).1, I (chkN e).2]⟩) [R]) := by
 refine AC.go Tryz.func39 rfl (Nat.le_of_ble_eq_true rfl) fun β => ?_
 refine sr ?_
 refine RunL.op rfl rfl (OpJ.boxA rfl fun b1 => ?_)
 refine sx 2 ?_
 refine kp [1] rfl ?_
 refine Run.seq ?_
 refine sr ?_
 refine sx 1 ?_
 refine RunL.call C81 rfl rfl rfl (c_head _ R hR) tks ?_
 refine asg rfl rfl ?_
 refine kp [1, 4] rfl ?_
 refine sr ?_
 refine sx 2 ?_
 refine kp [1, 4, 11] rfl ?_
 first | refine Run.if rfl (fun h1 => ?_) (fun h1 => ?_) | refine Run.cond rfl (fun h1 => ?_) (fun h1 => ?_)
 refine sr ?_
 refine sx 3 ?_
 refine kp [2, 3] rfl ?_
 refine Run.ret ?_
 exact ret_one (.tmp rfl (.tmp rfl .nil)) (by have hn : ¬ headE e = 0 := (by simpa using h1); unfold chkN; rw [if_neg hn]; rfl) gv
 refine Run.skip ?_
 refine Run.seq ?_
 refine sr ?_
 have hh : headE e = 0 := by simpa using h1
 have hlen : e.lines.length ≤ 100 := head_len hh
 refine sx 4 ?_
 refine kp [1, 14, 15, 16] rfl ?_
 refine Run.block ?_
 refine Run.weak (L' := [pt b1 (blk e.c 42), R]) (fun _ _ h => h) gv ?_
 refine Run.loop (fun mm E L => ∃ i : Nat, mm = e.lines.length - i ∧ i ≤ e.lines.length ∧ (∀ (j : Nat) (y : Ln), j < i → e.lines[j]? = some y → lineE y = 0) ∧ E = [(1, .pointer (some ⟨b1, 0, none⟩)), (14, .slice e.la e.lines.length e.lc), (15, I e.lines.length), (16, I i)] ∧ L = [pt b1 (blk e.c 42), R]) ⟨_, 0, rfl, Nat.zero_le _, fun _ _ h => by omega, rfl, rfl⟩ ?_
 rintro _ _ _ ⟨i, rfl, hi, hI0, rfl, rfl⟩
 refine sr ?_
 refine sx 1 ?_
 refine kp [1, 14, 15, 16, 17] rfl ?_
 refine Run.seq ?_
 first | refine Run.if rfl (fun h2 => ?_) (fun h2 => ?_) | refine Run.cond rfl (fun h2 => ?_) (fun h2 => ?_)
 refine Run.skip ?_
 refine Run.seq ?_
 refine Run.block ?_
 refine sr ?_
 obtain ⟨l, hli⟩ := get_ex (xs := e.lines) (i := i) (by omega)
 have hlm := List.mem_of_getElem? hli
 have hlr := he.2 l hlm
 refine RunL.rdOpen pk he.1 (flat_ne (k := 7) (fun _ => rfl) (by decide) hli) fun b o ebo hrd => ?_
 rw [ebo]
 refine sx 2 ?_
 refine RunL.op rfl rfl (OpJ.loadA inferInstance rfl pk (hrd.elem (fun _ => rfl) hli) rfl ?_)
 refine RunL.op rfl rfl (OpJ.alloc Z73 fun b6 => ?_)
 refine asg rfl rfl ?_
 refine RunL.op rfl rfl (OpJ.storeW T73 rfl rfl rfl rfl (by simp [Value.oneCell', Tg.c, Ln.c, En.c, Ac.c, Cl.c, Ky.c, Qy.c, Sb, Iv]) up ?_)
 refine kp [1, 5, 6, 14, 15, 16] rfl ?_
 refine sr ?_
 refine sx 1 ?_
 refine RunL.call C82 rfl rfl rfl (c_Line l R hlr.1 hlr.2.1) tks ?_
 refine asg rfl rfl ?_
 refine kp [1, 5, 7, 14, 15, 16] rfl ?_
 refine sr ?_
 refine sx 2 ?_
 refine kp [1, 5, 7, 14, 15, 16, 24] rfl ?_
 first | refine Run.if rfl (fun h3 => ?_) (fun h3 => ?_) | refine Run.cond rfl (fun h3 => ?_) (fun h3 => ?_)
 refine sr ?_
 refine sx 4 ?_
 refine kp [2, 3] rfl ?_
 refine Run.ret ?_
 exact ret_one (.tmp rfl (.tmp rfl .nil)) (by have hn : ¬ lineE l = 0 := (by simpa using h3); unfold chkN; rw [if_pos hh, linesE_at hI0 hli hn, Nat.zero_add]; rfl) gv
 refine Run.skip ?_
 refine Run.region ?_
 refine sx 2 ?_
 exact RunL.next (Keep.sub (kt (ks := [1, 14, 15, 16]) rfl)) _ ⟨_, by omega, i + 1, rfl, by omega, (fun j y hj hy => by { by_cases e2 : j = i; (subst e2; rw [hli] at hy; cases hy; simpa using h3); exact hI0 j y (by omega) hy }), rfl, rfl⟩ gv
 refine Run.exit ?_
 refine Run.seq ?_
 refine sr ?_
 refine sx 2 ?_
 have hall := linesE_none (i := 0) (fun l hl => by { obtain ⟨j, hj, rfl⟩ := List.getElem_of_mem hl; exact hI0 j _ (by omega) (List.getElem?_eq_getElem hj) })
 refine RunL.call C26 rfl rfl rfl (c_Balanced R _ _ _ he.1 (by omega) (fun l hl => (he.2 l hl).2.2)) tks ?_
 refine RunL.op rfl rfl (OpJ.not rfl ?_)
 refine kp [31] rfl ?_
 first | refine Run.if rfl (fun h4 => ?_) (fun h4 => ?_) | refine Run.cond rfl (fun h4 => ?_) (fun h4 => ?_)
 refine sr ?_
 refine sx 2 ?_
 refine kp [2, 3] rfl ?_
 refine Run.ret ?_
 exact ret_one (.tmp rfl (.tmp rfl .nil)) (by unfold chkN; rw [if_pos hh, hall]; simp only; rw [if_neg (by simp_all)]; rfl) gv
 refine Run.skip ?_
 refine sr ?_
 refine sx 2 ?_
 refine kp [2, 3] rfl ?_
 refine Run.ret ?_
 exact ret_one (.tmp rfl (.tmp rfl .nil)) (by unfold chkN; rw [if_pos hh, hall]; simp only; rw [if_pos (by simp_all)]; rfl) gv
end
theorem cl1 : ∀ x : Cl, ∀ v ∈ x.c, v.oneCell' = true := fun x v hv => by simp [Cl.c] at hv; rcases hv with rfl | rfl | rfl | rfl | rfl | rfl | rfl <;> rfl
section
attribute [local irreducible] OpJ RunL Run RunD DetJ pt own star Rd RdS
theorem c_isort (a e : Nat) (fid : Nat) (cp : List Value) (F : HP) (C : CI Tryz.prog fid) (hf : ∀ x y : Cl, AC Tryz.prog fid ⟨[.agg ⟨x.c⟩, .agg ⟨y.c⟩] ++ cp⟩ (stars [F]) (Ret (I (cmpK x.k y.k)) [F])) (b cap n : Nat) (f : Nat → Cl) (hn : n ≤ 100000) (hae : a ≤ e ∧ e ≤ n) : AC Tryz.prog 185 ⟨[.slice (some ⟨b, 0, none⟩) n cap, I a, I e, .func (.func fid) ⟨[]⟩ ⟨cp⟩]⟩ (stars [own 63 7 (some ⟨b, 0, none⟩) n cap ((asL n (f)).flatMap Cl.c), F]) (Outs (fun g : Nat → Cl => Re a e f g ∧ So leK a e g) (fun _ => .tuple ⟨[]⟩) (fun g => [own 63 7 (some ⟨b, 0, none⟩) n cap ((asL n (g)).flatMap Cl.c), F])) := by
 refine AC.go Tryz.func185 rfl (Nat.le_of_ble_eq_true rfl) fun β => ?_
 refine sr ?_
 refine sx 3 ?_
 refine kp [0, 1, 2, 3, 8] rfl ?_
 refine Run.block ?_
 refine Run.loop (fun mm E L => ∃ (i : Nat) (g : Nat → Cl), mm = e + 1 - i ∧ a + 1 ≤ i ∧ (i ≤ e ∨ i = a + 1) ∧ Re a e f g ∧ So leK a i g ∧ E = [(0, .slice (some ⟨b, 0, none⟩) n cap), (1, I a), (2, I e), (3, .func (.func fid) ⟨[]⟩ ⟨cp⟩), (8, I i)] ∧ L = [own 63 7 (some ⟨b, 0, none⟩) n cap ((asL n (g)).flatMap Cl.c), F]) ⟨_, a + 1, f, rfl, Nat.le_refl _, .inr rfl, Re.refl, (fun x y h1 h2 h3 => by { obtain rfl : x = y := by { omega }; exact leK_refl _ }), rfl, rfl⟩ ?_
 rintro _ _ _ ⟨i, g, rfl, hi1, hi2, hre, hso, rfl, rfl⟩
 refine Run.seq ?_
 refine sr ?_
 refine sx 3 ?_
 refine kp [0, 1, 2, 3, 8, 14] rfl ?_
 first | refine Run.if rfl (fun h1 => ?_) (fun h1 => ?_) | refine Run.cond rfl (fun h1 => ?_) (fun h1 => ?_)
 refine Run.skip ?_
 refine Run.seq ?_
 refine Run.block ?_
 refine sr ?_
 refine sx 2 ?_
 refine kp [0, 1, 2, 3, 8, 9] rfl ?_
 refine Run.block ?_
 refine Run.loop (fun mm E L => ∃ (j : Nat) (h : Nat → Cl), mm = j - a ∧ a ≤ j ∧ j ≤ i ∧ Re a e f h ∧ Ins leK a i j h ∧ E = [(0, .slice (some ⟨b, 0, none⟩) n cap), (1, I a), (2, I e), (3, .func (.func fid) ⟨[]⟩ ⟨cp⟩), (8, I i), (9, I j)] ∧ L = [own 63 7 (some ⟨b, 0, none⟩) n cap ((asL n (h)).flatMap Cl.c), F]) ⟨_, i, g, rfl, by omega, Nat.le_refl _, hre, Ins.start hso, rfl, rfl⟩ ?_
 rintro _ _ _ ⟨j, h, rfl, haj, hji, hre2, hins, rfl, rfl⟩
 refine Run.seq ?_
 refine Run.seq ?_
 refine regionD HM ?_
 have hj1 : (asL n h)[j]? = some (h j) := asL_get (by omega)
 have hj2 : (asL n h)[j - 1]? = some (h (j - 1)) := asL_get (by omega)
 refine tk 0 rfl rfl rfl (DetJ.move rfl) ?_
 refine tk 1 rfl rfl rfl (DetJ.move rfl) ?_
 refine tk 2 rfl rfl rfl (DetJ.gtr rfl rfl) ?_
 refine tk 3 rfl rfl rfl (DetJ.move rfl) ?_
 by_cases hp : a < j
 refine RunD.set (congrArg Bo (decide_eq_true (by omega))) ?_
 refine RunD.takeG 4 rfl rfl rfl rfl rfl kr (DetJ.move rfl) .nil ?_
 refine RunD.takeG 5 rfl rfl rfl rfl rfl kr (DetJ.move rfl) .nil ?_
 refine RunD.takeG 6 rfl rfl rfl rfl rfl kr (DetJ.move rfl) .nil ?_
 refine RunD.takeG 7 rfl rfl rfl rfl rfl kr (DetJ.indexAddr S32 rfl rfl (by omega)) .nil ?_
 first | refine RunD.takeGW 8 rfl rfl rfl rfl kr T63 rfl pk (by rfl) ?_ | refine RunD.takeGE 8 rfl rfl rfl rfl kr T63 rfl pk (by assumption) (by exact fun _ => rfl) rfl (by decide) ?_
 refine RunD.takeG 9 rfl rfl rfl rfl rfl kr (DetJ.move rfl) .nil ?_
 refine RunD.takeG 10 rfl rfl rfl rfl rfl kr (DetJ.move rfl) .nil ?_
 first | refine RunD.takeG 11 rfl rfl rfl rfl rfl kr (DetJ.subI rfl rfl (by omega)) .nil ?_ | refine RunD.takeG 11 rfl rfl rfl rfl rfl kr (DetJ.sub rfl rfl) .nil ?_
 refine RunD.set (v := I ((j - 1 : Nat) : Int)) (congrArg I (by omega)) ?_
 refine RunD.takeG 12 rfl rfl rfl rfl rfl kr (DetJ.indexAddr S32 rfl rfl (by omega)) .nil ?_
 first | refine RunD.takeGW 13 rfl rfl rfl rfl kr T63 rfl pk (by rfl) ?_ | refine RunD.takeGE 13 rfl rfl rfl rfl kr T63 rfl pk (by assumption) (by exact fun _ => rfl) rfl (by decide) ?_
 refine RunD.opG 14 [false, false, false, true, false, false, false, false, false, false, false, false, false, false] rfl rfl rfl rfl rfl kr kr (OpJ.callRet C rfl rfl (hf (h j) (h (j - 1))) tks ⟨po, ?_⟩)
 refine RunD.takeG 15 rfl rfl rfl rfl rfl kr (DetJ.lss rfl rfl) .nil ?_
 refine tk 16 rfl rfl rfl (DetJ.pickT rfl rfl) ?_
 refine kd [0, 1, 2, 3, 8, 9, 34] rfl ?_
 first | refine Run.if rfl (fun h2 => ?_) (fun h2 => ?_) | refine Run.cond rfl (fun h2 => ?_) (fun h2 => ?_)
 refine Run.skip ?_
 refine Run.seq ?_
 refine Run.block ?_
 refine regionD HM ?_
 refine tk 0 rfl rfl rfl (DetJ.move rfl) ?_
 refine tk 1 rfl rfl rfl (DetJ.move rfl) ?_
 refine tk 2 rfl rfl rfl (DetJ.move rfl) ?_
 refine tk 3 rfl rfl rfl (DetJ.move rfl) ?_
 first | refine tk 4 rfl rfl rfl (DetJ.subI rfl rfl (by omega)) ?_ | refine tk 4 rfl rfl rfl (DetJ.sub rfl rfl) ?_
 refine RunD.set (v := I ((j - 1 : Nat) : Int)) (congrArg I (by omega)) ?_
 refine tk 5 rfl rfl rfl (DetJ.move rfl) ?_
 refine tk 6 rfl rfl rfl (DetJ.move rfl) ?_
 first | refine tk 7 rfl rfl rfl (DetJ.subI rfl rfl (by omega)) ?_ | refine tk 7 rfl rfl rfl (DetJ.sub rfl rfl) ?_
 refine RunD.set (v := I ((j - 1 : Nat) : Int)) (congrArg I (by omega)) ?_
 refine tk 8 rfl rfl rfl (DetJ.indexAddr S32 rfl rfl (by omega)) ?_
 first | refine RunD.takeW 9 rfl rfl kr T63 rfl pk (by rfl) ?_ | refine RunD.takeP 9 rfl rfl kr T63 rfl pk (by simp) ?_ | refine RunD.takeE 9 rfl rfl kr T63 rfl pk (by assumption) (by exact fun _ => rfl) rfl (by decide) ?_
 refine tk 10 rfl rfl rfl (DetJ.move rfl) ?_
 refine tk 11 rfl rfl rfl (DetJ.move rfl) ?_
 refine tk 12 rfl rfl rfl (DetJ.indexAddr S32 rfl rfl (by omega)) ?_
 first | refine RunD.takeW 13 rfl rfl kr T63 rfl pk (by rfl) ?_ | refine RunD.takeP 13 rfl rfl kr T63 rfl pk (by simp) ?_ | refine RunD.takeE 13 rfl rfl kr T63 rfl pk (by assumption) (by exact fun _ => rfl) rfl (by decide) ?_
 refine tk 14 rfl rfl rfl (DetJ.indexAddr S32 rfl rfl (by omega)) ?_
 refine RunD.op 15 [false, false, false, false, false, false, false, false, false, false, true, true, true, false, false] rfl rfl rfl kr kr (OpJ.storeE (xs := asL n h) (i := j) (u' := h (j - 1)) inferInstance rfl rfl (cl1 _) (by rw [asL_len]; omega) (fun _ => rfl) (by decide) up ⟨po, ?_⟩)
 rw [asL_set]
 refine tk 16 rfl rfl rfl (DetJ.indexAddr S32 rfl rfl (by omega)) ?_
 refine RunD.op 17 [false, false, false, false] rfl rfl rfl kr kr (OpJ.storeE (xs := asL n (upd (j) (h (j - 1)) h)) (i := j - 1) (u' := h (j)) inferInstance rfl rfl (cl1 _) (by rw [asL_len]; omega) (fun _ => rfl) (by decide) up ⟨po, ?_⟩)
 rw [asL_set, upd_swp]
 refine kd [0, 1, 2, 3, 8, 9] rfl ?_
 refine Run.region ?_
 refine sx 2 ?_
 refine RunL.set (v := I ((j - 1 : Nat) : Int)) (congrArg I (by omega)) ?_
 refine asg rfl rfl ?_
 exact RunL.next (Keep.sub (kt (ks := [0, 1, 2, 3, 8, 9]) rfl)) _ ⟨_, by omega, j - 1, swp j (j - 1) h, rfl, by omega, by omega, hre2.trans (Re.swp (by omega) (by omega)), hins.step hp hji (Int.le_of_lt (by assumption)), rfl, rfl⟩ gv
 refine Run.exit ?_
 refine Run.region ?_
 refine sx 3 ?_
 exact RunL.next (Keep.sub (kt (ks := [0, 1, 2, 3, 8]) rfl)) _ ⟨_, by omega, i + 1, h, rfl, by omega, by omega, hre2, hins.done leK_trans leK_refl hji haj (.inr (leK_not (by assumption))), rfl, rfl⟩ gv
 refine RunD.set (congrArg Bo (decide_eq_false (by omega))) ?_
 refine RunD.takeN 4 rfl rfl rfl rfl rfl kr ?_
 refine RunD.takeN 5 rfl rfl rfl rfl rfl kr ?_
 refine RunD.takeN 6 rfl rfl rfl rfl rfl kr ?_
 refine RunD.takeN 7 rfl rfl rfl rfl rfl kr ?_
 refine RunD.takeN 8 rfl rfl rfl rfl rfl kr ?_
 refine RunD.takeN 9 rfl rfl rfl rfl rfl kr ?_
 refine RunD.takeN 10 rfl rfl rfl rfl rfl kr ?_
 refine RunD.takeN 11 rfl rfl rfl rfl rfl kr ?_
 refine RunD.takeN 12 rfl rfl rfl rfl rfl kr ?_
 refine RunD.takeN 13 rfl rfl rfl rfl rfl kr ?_
 refine RunD.takeN 14 rfl rfl rfl rfl rfl kr ?_
 refine RunD.takeN 15 rfl rfl rfl rfl rfl kr ?_
 refine tk 16 rfl rfl rfl (DetJ.pickF rfl rfl) ?_
 refine kd [0, 1, 2, 3, 8, 9, 34] rfl ?_
 refine Run.false rfl ?_
 refine Run.exit ?_
 refine Run.region ?_
 refine sx 3 ?_
 exact RunL.next (Keep.sub (kt (ks := [0, 1, 2, 3, 8]) rfl)) _ ⟨_, by omega, i + 1, h, rfl, by omega, by omega, hre2, hins.done leK_trans leK_refl hji haj (.inl (by omega)), rfl, rfl⟩ gv
 refine Run.exit ?_
 exact ret_out g .nil ⟨hre, hso.sub (Nat.le_refl _) (by omega)⟩ rfl gv
theorem c_swapR (x y m : Nat) (fv : Value) (F : HP) (b cap n : Nat) (f : Nat → Cl) (hn : n ≤ 100000) (hxy : x + m ≤ y ∧ y + m ≤ n) : AC Tryz.prog 202 ⟨[.slice (some ⟨b, 0, none⟩) n cap, I x, I y, I m, fv]⟩ (stars [own 63 7 (some ⟨b, 0, none⟩) n cap ((asL n (f)).flatMap Cl.c), F]) (Ret (.tuple ⟨[]⟩) [own 63 7 (some ⟨b, 0, none⟩) n cap ((asL n (swr x y m f)).flatMap Cl.c), F]) := by
 refine AC.go Tryz.func202 rfl (Nat.le_of_ble_eq_true rfl) fun β => ?_
 refine sr ?_
 refine asg rfl rfl ?_
 refine kp [0, 1, 2, 3, 10] rfl ?_
 refine Run.block ?_
 refine Run.loop (fun mm E L => ∃ i : Nat, mm = m - i ∧ i ≤ m ∧ E = [(0, .slice (some ⟨b, 0, none⟩) n cap), (1, I x), (2, I y), (3, I m), (10, I i)] ∧ L = [own 63 7 (some ⟨b, 0, none⟩) n cap ((asL n (swr x y i f)).flatMap Cl.c), F]) ⟨_, 0, rfl, Nat.zero_le _, rfl, (by rw [swr_zero])⟩ ?_
 rintro _ _ _ ⟨i, rfl, hi, rfl, rfl⟩
 refine Run.seq ?_
 refine sr ?_
 refine sx 3 ?_
 refine kp [0, 1, 2, 3, 10, 13] rfl ?_
 first | refine Run.if rfl (fun h1 => ?_) (fun h1 => ?_) | refine Run.cond rfl (fun h1 => ?_) (fun h1 => ?_)
 refine Run.skip ?_
 refine Run.seq ?_
 refine Run.block ?_
 refine regionD HM ?_
 have hj1 : (asL n (swr x y i f))[y + i]? = some (swr x y i f (y + i)) := asL_get (by omega)
 have hj2 : (asL n (swr x y i f))[x + i]? = some (swr x y i f (x + i)) := asL_get (by omega)
 refine tk 0 rfl rfl rfl (DetJ.move rfl) ?_
 refine tk 1 rfl rfl rfl (DetJ.move rfl) ?_
 refine tk 2 rfl rfl rfl (DetJ.move rfl) ?_
 first | refine tk 3 rfl rfl rfl (DetJ.addI rfl rfl (by omega)) ?_ | refine tk 3 rfl rfl rfl (DetJ.add rfl rfl) ?_
 refine RunD.set (v := I ((x + i : Nat) : Int)) (congrArg I (by omega)) ?_
 refine tk 4 rfl rfl rfl (DetJ.move rfl) ?_
 refine tk 5 rfl rfl rfl (DetJ.move rfl) ?_
 refine tk 6 rfl rfl rfl (DetJ.move rfl) ?_
 first | refine tk 7 rfl rfl rfl (DetJ.addI rfl rfl (by omega)) ?_ | refine tk 7 rfl rfl rfl (DetJ.add rfl rfl) ?_
 refine RunD.set (v := I ((y + i : Nat) : Int)) (congrArg I (by omega)) ?_
 refine tk 8 rfl rfl rfl (DetJ.move rfl) ?_
 refine tk 9 rfl rfl rfl (DetJ.move rfl) ?_
 refine tk 10 rfl rfl rfl (DetJ.move rfl) ?_
 first | refine tk 11 rfl rfl rfl (DetJ.addI rfl rfl (by omega)) ?_ | refine tk 11 rfl rfl rfl (DetJ.add rfl rfl) ?_
 refine RunD.set (v := I ((y + i : Nat) : Int)) (congrArg I (by omega)) ?_
 refine tk 12 rfl rfl rfl (DetJ.indexAddr S32 rfl rfl (by omega)) ?_
 first | refine RunD.takeW 13 rfl rfl kr T63 rfl pk (by rfl) ?_ | refine RunD.takeP 13 rfl rfl kr T63 rfl pk (by simp) ?_ | refine RunD.takeE 13 rfl rfl kr T63 rfl pk (by assumption) (by exact fun _ => rfl) rfl (by decide) ?_
 refine tk 14 rfl rfl rfl (DetJ.move rfl) ?_
 refine tk 15 rfl rfl rfl (DetJ.move rfl) ?_
 refine tk 16 rfl rfl rfl (DetJ.move rfl) ?_
 first | refine tk 17 rfl rfl rfl (DetJ.addI rfl rfl (by omega)) ?_ | refine tk 17 rfl rfl rfl (DetJ.add rfl rfl) ?_
 refine RunD.set (v := I ((x + i : Nat) : Int)) (congrArg I (by omega)) ?_
 refine tk 18 rfl rfl rfl (DetJ.indexAddr S32 rfl rfl (by omega)) ?_
 first | refine RunD.takeW 19 rfl rfl kr T63 rfl pk (by rfl) ?_ | refine RunD.takeP 19 rfl rfl kr T63 rfl pk (by simp) ?_ | refine RunD.takeE 19 rfl rfl kr T63 rfl pk (by assumption) (by exact fun _ => rfl) rfl (by decide) ?_
 refine tk 20 rfl rfl rfl (DetJ.indexAddr S32 rfl rfl (by omega)) ?_
 refine RunD.op 21 [false, false, false, false, true, true, false, false, false, false, false, false, false, true, true, true, true, false, false, false, false] rfl rfl rfl kr kr (OpJ.storeE (xs := asL n (swr x y i f)) (i := x + i) (u' := swr x y i f (y + i)) inferInstance rfl rfl (cl1 _) (by rw [asL_len]; omega) (fun _ => rfl) (by decide) up ⟨po, ?_⟩)
 rw [asL_set]
 refine tk 22 rfl rfl rfl (DetJ.indexAddr S32 rfl rfl (by omega)) ?_
 refine RunD.op 23 [false, false, false, false, false, false, false] rfl rfl rfl kr kr (OpJ.storeE (xs := asL n (upd (x + i) (swr x y i f (y + i)) (swr x y i f))) (i := y + i) (u' := swr x y i f (x + i)) inferInstance rfl rfl (cl1 _) (by rw [asL_len]; omega) (fun _ => rfl) (by decide) up ⟨po, ?_⟩)
 rw [asL_set, upd_swp, swr_step (by omega)]
 refine kd [0, 1, 2, 3, 10] rfl ?_
 refine Run.region ?_
 refine sx 3 ?_
 exact RunL.next (Keep.sub (kt (ks := [0, 1, 2, 3, 10]) rfl)) _ ⟨_, by omega, i + 1, rfl, by omega, rfl, rfl⟩ gv
 refine Run.exit ?_
 obtain rfl : i = m := by omega
 exact ret_one .nil rfl gv
theorem c_rotate (s m e : Nat) (fv : Value) (F : HP) (b cap n : Nat) (f : Nat → Cl) (hn : n ≤ 100000) (hse : s < m ∧ m < e ∧ e ≤ n) : AC Tryz.prog 198 ⟨[.slice (some ⟨b, 0, none⟩) n cap, I s, I m, I e, fv]⟩ (stars [own 63 7 (some ⟨b, 0, none⟩) n cap ((asL n (f)).flatMap Cl.c), F]) (Ret (.tuple ⟨[]⟩) [own 63 7 (some ⟨b, 0, none⟩) n cap ((asL n (rot s m e f)).flatMap Cl.c), F]) := by
 refine AC.go Tryz.func198 rfl (Nat.le_of_ble_eq_true rfl) fun β => ?_
 refine sr ?_
 refine sx 4 ?_
 refine kp [0, 2, 3, 4, 10] rfl ?_
 refine sr ?_
 refine sx 4 ?_
 refine kp [0, 2, 4, 10, 11] rfl ?_
 refine Run.seq ?_
 refine Run.block ?_
 refine Run.weak (E' := [(0, .slice (some ⟨b, 0, none⟩) n cap), (2, I m), (4, fv), (10, I ((m - s : Nat) : Int)), (11, I ((e - m : Nat) : Int))]) (L' := [own 63 7 (some ⟨b, 0, none⟩) n cap ((asL n (f)).flatMap Cl.c), F]) (by rw [show ((m - s : Nat) : Int) = (m : Int) - s by omega, show ((e - m : Nat) : Int) = (e : Int) - m by omega]; exact Keep.sub (kt (ks := [0, 2, 4, 10, 11]) rfl)) gv ?_
 refine Run.loop (fun mm E L => ∃ (i j : Nat) (h : Nat → Cl), mm = i + j ∧ 0 < i ∧ 0 < j ∧ i ≤ m ∧ m + j ≤ n ∧ rot (m - i) m (m + j) h = rot s m e f ∧ E = [(0, .slice (some ⟨b, 0, none⟩) n cap), (2, I m), (4, fv), (10, I i), (11, I j)] ∧ L = [own 63 7 (some ⟨b, 0, none⟩) n cap ((asL n (h)).flatMap Cl.c), F]) ⟨_, m - s, e - m, f, rfl, by omega, by omega, by omega, by omega, (by rw [show m - (m - s) = s by omega, show m + (e - m) = e by omega]), rfl, rfl⟩ ?_
 rintro _ _ _ ⟨i, j, h, rfl, hi, hj, him, hjn, hrot, rfl, rfl⟩
 refine Run.seq ?_
 refine sr ?_
 refine sx 3 ?_
 refine kp [0, 2, 4, 10, 11, 20] rfl ?_
 first | refine Run.if rfl (fun h1 => ?_) (fun h1 => ?_) | refine Run.cond rfl (fun h1 => ?_) (fun h1 => ?_)
 refine Run.skip ?_
 refine Run.block ?_
 refine sr ?_
 refine sx 3 ?_
 refine kp [0, 2, 4, 10, 11, 23] rfl ?_
 first | refine Run.if rfl (fun h2 => ?_) (fun h2 => ?_) | refine Run.cond rfl (fun h2 => ?_) (fun h2 => ?_)
 refine sr ?_
 refine sx 4 ?_
 refine RunL.set (v := I ((m - i : Nat) : Int)) (congrArg I (by omega)) ?_
 refine sx 3 ?_
 refine RunL.call C202 rfl rfl rfl (c_swapR (m - i) m j fv F b cap n h hn (by omega)) tks ?_
 refine kp [0, 2, 4, 10, 11] rfl ?_
 refine Run.region ?_
 refine sx 4 ?_
 refine RunL.weak (E' := [(0, .slice (some ⟨b, 0, none⟩) n cap), (2, I m), (4, fv), (10, I ((i - j : Nat) : Int)), (11, I j)]) (L' := [own 63 7 (some ⟨b, 0, none⟩) n cap ((asL n (swr (m - i) m j h)).flatMap Cl.c), F]) (by rw [show ((i - j : Nat) : Int) = (i : Int) - j by omega]; exact Keep.sub (kt (ks := [0, 2, 4, 10, 11]) rfl)) gv (RunL.nil ?_)
 exact ⟨_, by omega, i - j, j, swr (m - i) m j h, rfl, by omega, hj, by omega, hjn, (by rw [show m - (i - j) = m - i + j by omega, rot_gt him (by omega)]; exact hrot), rfl, rfl⟩
 refine sr ?_
 refine sx 4 ?_
 refine RunL.set (v := I ((m - i : Nat) : Int)) (congrArg I (by omega)) ?_
 refine sx 5 ?_
 refine RunL.set (v := I ((m + j - i : Nat) : Int)) (congrArg I (by omega)) ?_
 refine sx 2 ?_
 refine RunL.call C202 rfl rfl rfl (c_swapR (m - i) (m + j - i) i fv F b cap n h hn (by omega)) tks ?_
 refine kp [0, 2, 4, 10, 11] rfl ?_
 refine Run.region ?_
 refine sx 4 ?_
 refine RunL.weak (E' := [(0, .slice (some ⟨b, 0, none⟩) n cap), (2, I m), (4, fv), (10, I i), (11, I ((j - i : Nat) : Int))]) (L' := [own 63 7 (some ⟨b, 0, none⟩) n cap ((asL n (swr (m - i) (m + j - i) i h)).flatMap Cl.c), F]) (by rw [show ((j - i : Nat) : Int) = (j : Int) - i by omega]; exact Keep.sub (kt (ks := [0, 2, 4, 10, 11]) rfl)) gv (RunL.nil ?_)
 exact ⟨_, by omega, i, j - i, swr (m - i) (m + j - i) i h, rfl, hi, by omega, him, by omega, (by rw [show m + (j - i) = m + j - i by omega, rot_lt him (by omega)]; exact hrot), rfl, rfl⟩
 refine Run.exit ?_
 refine Run.region ?_
 refine sx 4 ?_
 refine RunL.set (v := I ((m - i : Nat) : Int)) (congrArg I (by omega)) ?_
 refine sx 3 ?_
 refine RunL.call C202 rfl rfl rfl (c_swapR (m - i) m i fv F b cap n h hn (by omega)) tks ?_
 refine kp [] rfl ?_
 obtain rfl : i = j := by omega
 rw [rot_eq him, hrot]
 exact ret_one .nil rfl gv
end
end Go.Proofs.YtglaahpagjjmoaaGreatDoor
