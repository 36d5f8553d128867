/- Laws of the walks and of the models, part 3 (merged by program). -/
import Derived.Test.YtcpghpifbgpkjaaGreatDoorC2
import Derived.Test.YtcpghpifbgpkjaaGreatDoorProg
set_option linter.unusedVariables false
set_option linter.unusedSimpArgs false
set_option maxRecDepth 20000
set_option maxHeartbeats 4000000
namespace Go.Proofs.YtcpghpifbgpkjaaGreatDoor
open Go Go.SL Go.Proofs
instance nB127 : BI Tryz.prog 127 [.int .i64 0, .int .i64 0] [(0, 1), (1, 1)] := .of (by kernel_rfl) (by kernel_rfl)
instance nB32 : BI Tryz.prog 32 [.int .i64 0, .int .i64 0, .int .i64 0, .int .i64 0] [(0, 1), (1, 1), (2, 1), (3, 1)] := .of (by kernel_rfl) (by kernel_rfl)
instance nB35 : BI Tryz.prog 35 [.int .i64 0, .int .i64 0, .string ⟨#[]⟩, .int .i64 0, .int .i64 0, .int .i64 0, .string ⟨#[]⟩, .int .i64 0] [(0, 1), (1, 1), (2, 1), (3, 1), (4, 1), (5, 1), (6, 1), (7, 1)] := .of (by kernel_rfl) (by kernel_rfl)
instance nB41 : BI Tryz.prog 41 [.int .i64 0, .int .i64 0, .int .i64 0] [(0, 1), (1, 1), (2, 1)] := .of (by kernel_rfl) (by kernel_rfl)
instance nB52 : BI Tryz.prog 52 [.int .i64 0, .int .i64 0, .slice none 0 0] [(0, 1), (1, 1), (2, 1)] := .of (by kernel_rfl) (by kernel_rfl)
instance nB61 : BI Tryz.prog 61 [.int .i64 0, .int .i64 0, .int .i64 0, .slice none 0 0, .slice none 0 0] [(0, 1), (1, 1), (2, 1), (3, 1), (4, 1)] := .of (by kernel_rfl) (by kernel_rfl)
instance nB76 : BI Tryz.prog 76 [.int .i64 0, .slice none 0 0, .slice none 0 0, .slice none 0 0, .slice none 0 0, .int .i64 0, .int .i64 0, .int .i64 0, .slice none 0 0, .slice none 0 0] [(0, 1), (1, 1), (2, 1), (3, 1), (4, 1), (5, 5)] := .of (by kernel_rfl) (by kernel_rfl)
instance nB85 : BI Tryz.prog 85 [.map none, .slice none 0 0, .int .i64 0, .int .i64 0, .int .i64 0, .slice none 0 0, .slice none 0 0] [(0, 1), (1, 1), (2, 5)] := .of (by kernel_rfl) (by kernel_rfl)
instance nC10 : CI Tryz.prog 10 := .k
instance nC11 : CI Tryz.prog 11 := .k
instance nC12 : CI Tryz.prog 12 := .k
instance nC13 : CI Tryz.prog 13 := .k
instance nC14 : CI Tryz.prog 14 := .k
instance nC15 : CI Tryz.prog 15 := .k
instance nC16 : CI Tryz.prog 16 := .k
instance nC17 : CI Tryz.prog 17 := .k
instance nC18 : CI Tryz.prog 18 := .k
instance nC19 : CI Tryz.prog 19 := .k
instance nC20 : CI Tryz.prog 20 := .k
instance nC21 : CI Tryz.prog 21 := .k
instance nC22 : CI Tryz.prog 22 := .k
instance nC23 : CI Tryz.prog 23 := .k
instance nC24 : CI Tryz.prog 24 := .k
instance nC25 : CI Tryz.prog 25 := .k
instance nC26 : CI Tryz.prog 26 := .k
instance nC27 : CI Tryz.prog 27 := .k
instance nC28 : CI Tryz.prog 28 := .k
instance nC29 : CI Tryz.prog 29 := .k
instance nC30 : CI Tryz.prog 30 := .k
instance nC31 : CI Tryz.prog 31 := .k
instance nC32 : CI Tryz.prog 32 := .k
instance nC33 : CI Tryz.prog 33 := .k
instance nC34 : CI Tryz.prog 34 := .k
instance nC35 : CI Tryz.prog 35 := .k
instance nC36 : CI Tryz.prog 36 := .k
instance nC37 : CI Tryz.prog 37 := .k
instance nC38 : CI Tryz.prog 38 := .k
instance nC39 : CI Tryz.prog 39 := .k
instance nC40 : CI Tryz.prog 40 := .k
instance nC41 : CI Tryz.prog 41 := .k
instance nC42 : CI Tryz.prog 42 := .k
instance nC43 : CI Tryz.prog 43 := .k
instance nC44 : CI Tryz.prog 44 := .k
instance nC45 : CI Tryz.prog 45 := .k
instance nC46 : CI Tryz.prog 46 := .k
instance nC47 : CI Tryz.prog 47 := .k
instance nC50 : CI Tryz.prog 50 := .k
instance nC51 : CI Tryz.prog 51 := .k
instance nC52 : CI Tryz.prog 52 := .k
instance nC53 : CI Tryz.prog 53 := .k
instance nC54 : CI Tryz.prog 54 := .k
instance nC57 : CI Tryz.prog 57 := .k
instance nC58 : CI Tryz.prog 58 := .k
instance nC59 : CI Tryz.prog 59 := .k
instance nC60 : CI Tryz.prog 60 := .k
instance nC61 : CI Tryz.prog 61 := .k
instance nC62 : CI Tryz.prog 62 := .k
instance nC63 : CI Tryz.prog 63 := .k
instance nC70 : CI Tryz.prog 70 := .k
instance nEI32 : EI Tryz.prog 32 [.int, .int, .int, .int] := .of (by kernel_rfl)
instance nEI35 : EI Tryz.prog 35 [.int, .int, .str, .int, .int, .int, .str, .int] := .of (by kernel_rfl)
instance nEI41 : EI Tryz.prog 41 [.int, .int, .int] := .of (by kernel_rfl)
instance nF23_0 : FI Tryz.prog 23 0 3 0 := .k
instance nF23_1 : FI Tryz.prog 23 1 3 1 := .k
instance nF32_0 : FI Tryz.prog 32 0 3 0 := .k
instance nF32_1 : FI Tryz.prog 32 1 3 1 := .k
instance nF32_2 : FI Tryz.prog 32 2 3 2 := .k
instance nF32_3 : FI Tryz.prog 32 3 3 3 := .k
instance nF35_0 : FI Tryz.prog 35 0 3 0 := .k
instance nF35_1 : FI Tryz.prog 35 1 3 1 := .k
instance nF35_2 : FI Tryz.prog 35 2 9 2 := .k
instance nF35_3 : FI Tryz.prog 35 3 3 3 := .k
instance nF35_4 : FI Tryz.prog 35 4 3 4 := .k
instance nF35_6 : FI Tryz.prog 35 6 9 6 := .k
instance nF35_7 : FI Tryz.prog 35 7 3 7 := .k
instance nF41_0 : FI Tryz.prog 41 0 3 0 := .k
instance nF41_1 : FI Tryz.prog 41 1 3 1 := .k
instance nF41_2 : FI Tryz.prog 41 2 3 2 := .k
instance nF52_0 : FI Tryz.prog 52 0 3 0 := .k
instance nF52_1 : FI Tryz.prog 52 1 3 1 := .k
instance nF52_2 : FI Tryz.prog 52 2 24 2 := .k
instance nF61_0 : FI Tryz.prog 61 0 3 0 := .k
instance nF61_1 : FI Tryz.prog 61 1 3 1 := .k
instance nF61_3 : FI Tryz.prog 61 3 58 3 := .k
instance nF61_4 : FI Tryz.prog 61 4 59 4 := .k
instance nF76_0 : FI Tryz.prog 76 0 3 0 := .k
instance nF76_1 : FI Tryz.prog 76 1 24 1 := .k
instance nF76_2 : FI Tryz.prog 76 2 33 2 := .k
instance nF76_3 : FI Tryz.prog 76 3 74 3 := .k
instance nF76_4 : FI Tryz.prog 76 4 73 4 := .k
instance nF76_5 : FI Tryz.prog 76 5 61 5 := .k
instance nF85_0 : FI Tryz.prog 85 0 83 0 := .k
instance nF85_1 : FI Tryz.prog 85 1 73 1 := .k
instance nF85_2 : FI Tryz.prog 85 2 61 2 := .k
instance nM3 : MI Tryz.prog 3 1 8 [.int .i64 0] := .of (by kernel_rfl) rfl
instance nM32 : MI Tryz.prog 32 4 32 [.int .i64 0, .int .i64 0, .int .i64 0, .int .i64 0] := .of (by kernel_rfl) rfl
instance nM35 : MI Tryz.prog 35 8 80 [.int .i64 0, .int .i64 0, .string ⟨#[]⟩, .int .i64 0, .int .i64 0, .int .i64 0, .string ⟨#[]⟩, .int .i64 0] := .of (by kernel_rfl) rfl
instance nM41 : MI Tryz.prog 41 3 24 [.int .i64 0, .int .i64 0, .int .i64 0] := .of (by kernel_rfl) rfl
instance nM61 : MI Tryz.prog 61 5 72 [.int .i64 0, .int .i64 0, .int .i64 0, .slice none 0 0, .slice none 0 0] := .of (by kernel_rfl) rfl
instance nM96 : MI Tryz.prog 96 4 40 [.int .i64 0, .string ⟨#[]⟩, .int .i64 0, .int .i64 0] := .of (by kernel_rfl) rfl
instance nM98 : MI Tryz.prog 98 7 64 [.int .i64 0, .int .i64 0, .string ⟨#[]⟩, .int .i64 0, .int .i64 0, .int .i64 0, .int .i64 0] := .of (by kernel_rfl) rfl
instance nS24 : SI Tryz.prog 24 35 8 := .of (by kernel_rfl) (by kernel_rfl)
instance nS33 : SI Tryz.prog 33 32 4 := .of (by kernel_rfl) (by kernel_rfl)
instance nS37 : SI Tryz.prog 37 41 3 := .of (by kernel_rfl) (by kernel_rfl)
instance nS58 : SI Tryz.prog 58 96 4 := .of (by kernel_rfl) (by kernel_rfl)
instance nS59 : SI Tryz.prog 59 98 7 := .of (by kernel_rfl) (by kernel_rfl)
instance nS73 : SI Tryz.prog 73 61 5 := .of (by kernel_rfl) (by kernel_rfl)
instance nS74 : SI Tryz.prog 74 3 1 := .of (by kernel_rfl) (by kernel_rfl)
instance nT127 : TI Tryz.prog 127 true 2 := .k
instance nT23 : TI Tryz.prog 23 true 2 := .k
instance nT24 : TI Tryz.prog 24 false 1 := .k
instance nT25 : TI Tryz.prog 25 false 1 := .k
instance nT3 : TI Tryz.prog 3 false 1 := .k
instance nT32 : TI Tryz.prog 32 true 4 := .k
instance nT33 : TI Tryz.prog 33 false 1 := .k
instance nT35 : TI Tryz.prog 35 true 8 := .k
instance nT41 : TI Tryz.prog 41 true 3 := .k
instance nT58 : TI Tryz.prog 58 false 1 := .k
instance nT59 : TI Tryz.prog 59 false 1 := .k
instance nT61 : TI Tryz.prog 61 true 5 := .k
instance nT73 : TI Tryz.prog 73 false 1 := .k
instance nT74 : TI Tryz.prog 74 false 1 := .k
instance nT83 : TI Tryz.prog 83 false 1 := .k
instance nT85 : TI Tryz.prog 85 true 7 := .k
instance nT9 : TI Tryz.prog 9 false 1 := .k
theorem nU128 : Tryz.prog.underlying 128 = some (.int .u64) := by kernel_rfl
instance nUV128 : UI Tryz.prog 128 (.int .u64) := ⟨nU128⟩
theorem nU25 : Tryz.prog.underlying 25 = some (.pointer (Tryz.prog.pointee 25)) := by kernel_rfl
instance nUP25 : PI Tryz.prog 25 := ⟨nU25⟩
theorem nU3 : Tryz.prog.underlying 3 = some (.int .i64) := by kernel_rfl
instance nUV3 : UI Tryz.prog 3 (.int .i64) := ⟨nU3⟩
theorem nU4 : Tryz.prog.underlying 4 = some .bool := by kernel_rfl
instance nUV4 : UI Tryz.prog 4 .bool := ⟨nU4⟩
theorem nU45 : Tryz.prog.underlying 45 = some (.pointer (Tryz.prog.pointee 45)) := by kernel_rfl
instance nUP45 : PI Tryz.prog 45 := ⟨nU45⟩
theorem nU9 : Tryz.prog.underlying 9 = some .string := by kernel_rfl
instance nUV9 : UI Tryz.prog 9 .string := ⟨nU9⟩
theorem nU128s : (Tryz.prog.underlying 128).isSome = true := by kernel_rfl
instance nUW128 : SoI Tryz.prog 128 := ⟨nU128s⟩
theorem nU3s : (Tryz.prog.underlying 3).isSome = true := by kernel_rfl
instance nUW3 : SoI Tryz.prog 3 := ⟨nU3s⟩
instance nZ127 : ZI Tryz.prog 127 [.int .i64 0, .int .i64 0] := .of (by kernel_rfl)
instance nZ3 : ZI Tryz.prog 3 [.int .i64 0] := .of (by kernel_rfl)
instance nZ32 : ZI Tryz.prog 32 [.int .i64 0, .int .i64 0, .int .i64 0, .int .i64 0] := .of (by kernel_rfl)
instance nZ35 : ZI Tryz.prog 35 [.int .i64 0, .int .i64 0, .string ⟨#[]⟩, .int .i64 0, .int .i64 0, .int .i64 0, .string ⟨#[]⟩, .int .i64 0] := .of (by kernel_rfl)
instance nZ41 : ZI Tryz.prog 41 [.int .i64 0, .int .i64 0, .int .i64 0] := .of (by kernel_rfl)
instance nZ61 : ZI Tryz.prog 61 [.int .i64 0, .int .i64 0, .int .i64 0, .slice none 0 0, .slice none 0 0] := .of (by kernel_rfl)
instance nZ85 : ZI Tryz.prog 85 [.map none, .slice none 0 0, .int .i64 0, .int .i64 0, .int .i64 0, .slice none 0 0, .slice none 0 0] := .of (by kernel_rfl)
end Go.Proofs.YtcpghpifbgpkjaaGreatDoor

namespace Go.Proofs.YtcpghpifbgpkjaaGreatDoor
open Go Go.SL Go.Proofs
section
attribute [local irreducible] OpJ RunL Run RunD DetJ pt own star Rd RdS
theorem ac70n (k : Int) : AC Tryz.prog 70 ⟨[I k]⟩ (stars []) (Ret (I (targK k)) []) := by
 refine eo Tryz.func70 fun β => ?_
 refine rg 1 [0] ?_
 refine Run.seq ?_
 refine rg 2 [4] ?_
 refine cnd rfl (fun h1 => ?_) fun h1 => ?_
 refine rg 1 [2] ?_
 exact .ret (ret_one (.tmp rfl .nil) (by simp [tup, targK, *]) gv)
 refine Run.skip ?_
 refine rg 1 [2] ?_
 exact .ret (ret_one (.tmp rfl .nil) (by simp [tup, targK, *]) gv)
theorem cl33 (R : HP) (oa : Option Addr) (cap : Nat) (ls : List Mv) (hR : RdS R oa (ls.flatMap Mv.c)) (hlen : ls.length ≤ 1000000) : AC Tryz.prog 33 ⟨[.slice oa ls.length cap]⟩ (stars [R]) (Outs (fun _ : Option Addr × Nat => True) (fun x => .slice x.1 ls.length x.2) (fun x => [own 35 8 x.1 ls.length x.2 (ls.flatMap Mv.c), R])) := by
 refine eo Tryz.func33 fun β => ?_
 refine rg 1 [0] ?_
 refine Run.seq ?_
 refine rg 2 [0, 4] ?_
 refine cnd rfl (fun h1 => ?_) fun h1 => ?_
 refine sr ?_
 by_cases hne : ls.flatMap Mv.c ≠ []
 refine RunL.rdOpen pk hR hne fun b o e hrd => ?_
 rw [e] at h1
 cases h1
 obtain rfl : ls = [] := by
   cases ls with
   | nil => rfl
   | cons l ls => exact absurd (by simp [Mv.c]) hne
 refine RunL.ownNil 35 8 ?_
 refine sx 1 ?_
 refine kq [2] ?_
 exact .ret (ret_out (none, 0) (.tmp rfl .nil) trivial rfl gv)
 refine Run.skip ?_
 refine sr ?_
 refine RunL.op rfl rfl (OpJ.buildSlice0 nS24 fun b5 => ?_)
 refine sx 1 ?_
 refine RunL.op rfl rfl (OpJ.appendAll nS24 nM35 rfl rfl pk pk hR (flat_len (enc := Mv.c) (k := 8) (fun _ => rfl) _) (by decide) (flat_one mv1 _) (by omega) (by omega) fun a7 c7 => ?_)
 simp only [Nat.zero_add, List.nil_append]
 refine sx 1 ?_
 refine kq [2] ?_
 exact .ret (ret_out (a7, c7) (.tmp rfl .nil) trivial rfl gv)
theorem cl44 (R : HP) (oa : Option Addr) (cap : Nat) (ls : List Ly) (hR : RdS R oa (ls.flatMap Ly.c)) (hlen : ls.length ≤ 1000000) : AC Tryz.prog 44 ⟨[.slice oa ls.length cap]⟩ (stars [R]) (Outs (fun _ : Option Addr × Nat => True) (fun x => .slice x.1 ls.length x.2) (fun x => [own 96 4 x.1 ls.length x.2 (ls.flatMap Ly.c), R])) := by
 refine eo Tryz.func44 fun β => ?_
 refine rg 1 [0] ?_
 refine Run.seq ?_
 refine rg 2 [0, 4] ?_
 refine cnd rfl (fun h1 => ?_) fun h1 => ?_
 refine sr ?_
 by_cases hne : ls.flatMap Ly.c ≠ []
 refine RunL.rdOpen pk hR hne fun b o e hrd => ?_
 rw [e] at h1
 cases h1
 obtain rfl : ls = [] := by
   cases ls with
   | nil => rfl
   | cons l ls => exact absurd (by simp [Ly.c]) hne
 refine RunL.ownNil 96 4 ?_
 refine sx 1 ?_
 refine kq [2] ?_
 exact .ret (ret_out (none, 0) (.tmp rfl .nil) trivial rfl gv)
 refine Run.skip ?_
 refine sr ?_
 refine RunL.op rfl rfl (OpJ.buildSlice0 nS58 fun b5 => ?_)
 refine sx 1 ?_
 refine RunL.op rfl rfl (OpJ.appendAll nS58 nM96 rfl rfl pk pk hR (flat_len (enc := Ly.c) (k := 4) (fun _ => rfl) _) (by decide) (flat_one Ly.one _) (by omega) (by omega) fun a7 c7 => ?_)
 simp only [Nat.zero_add, List.nil_append]
 refine sx 1 ?_
 refine kq [2] ?_
 exact .ret (ret_out (a7, c7) (.tmp rfl .nil) trivial rfl gv)
theorem cl45 (R : HP) (oa : Option Addr) (cap : Nat) (ls : List Pa) (hR : RdS R oa (ls.flatMap Pa.c)) (hlen : ls.length ≤ 1000000) : AC Tryz.prog 45 ⟨[.slice oa ls.length cap]⟩ (stars [R]) (Outs (fun _ : Option Addr × Nat => True) (fun x => .slice x.1 ls.length x.2) (fun x => [own 98 7 x.1 ls.length x.2 (ls.flatMap Pa.c), R])) := by
 refine eo Tryz.func45 fun β => ?_
 refine rg 1 [0] ?_
 refine Run.seq ?_
 refine rg 2 [0, 4] ?_
 refine cnd rfl (fun h1 => ?_) fun h1 => ?_
 refine sr ?_
 by_cases hne : ls.flatMap Pa.c ≠ []
 refine RunL.rdOpen pk hR hne fun b o e hrd => ?_
 rw [e] at h1
 cases h1
 obtain rfl : ls = [] := by
   cases ls with
   | nil => rfl
   | cons l ls => exact absurd (by simp [Pa.c]) hne
 refine RunL.ownNil 98 7 ?_
 refine sx 1 ?_
 refine kq [2] ?_
 exact .ret (ret_out (none, 0) (.tmp rfl .nil) trivial rfl gv)
 refine Run.skip ?_
 refine sr ?_
 refine RunL.op rfl rfl (OpJ.buildSlice0 nS59 fun b5 => ?_)
 refine sx 1 ?_
 refine RunL.op rfl rfl (OpJ.appendAll nS59 nM98 rfl rfl pk pk hR (flat_len (enc := Pa.c) (k := 7) (fun _ => rfl) _) (by decide) (flat_one Pa.one _) (by omega) (by omega) fun a7 c7 => ?_)
 simp only [Nat.zero_add, List.nil_append]
 refine sx 1 ?_
 refine kq [2] ?_
 exact .ret (ret_out (a7, c7) (.tmp rfl .nil) trivial rfl gv)
theorem cl57 (R : HP) (oa : Option Addr) (cap : Nat) (ls : List Ks) (hR : RdS R oa (ls.flatMap Ks.c)) (hlen : ls.length ≤ 1000000) : AC Tryz.prog 57 ⟨[.slice oa ls.length cap]⟩ (stars [R]) (Outs (fun _ : Option Addr × Nat => True) (fun x => .slice x.1 ls.length x.2) (fun x => [own 61 5 x.1 ls.length x.2 (ls.flatMap Ks.c), R])) := by
 refine eo Tryz.func57 fun β => ?_
 refine rg 1 [0] ?_
 refine Run.seq ?_
 refine rg 2 [0, 4] ?_
 refine cnd rfl (fun h1 => ?_) fun h1 => ?_
 refine sr ?_
 by_cases hne : ls.flatMap Ks.c ≠ []
 refine RunL.rdOpen pk hR hne fun b o e hrd => ?_
 rw [e] at h1
 cases h1
 obtain rfl : ls = [] := by
   cases ls with
   | nil => rfl
   | cons l ls => exact absurd (by simp [Ks.c]) hne
 refine RunL.ownNil 61 5 ?_
 refine sx 1 ?_
 refine kq [2] ?_
 exact .ret (ret_out (none, 0) (.tmp rfl .nil) trivial rfl gv)
 refine Run.skip ?_
 refine sr ?_
 refine RunL.op rfl rfl (OpJ.buildSlice0 nS73 fun b5 => ?_)
 refine sx 1 ?_
 refine RunL.op rfl rfl (OpJ.appendAll nS73 nM61 rfl rfl pk pk hR (flat_len (enc := Ks.c) (k := 5) (fun _ => rfl) _) (by decide) (flat_one ks1 _) (by omega) (by omega) fun a7 c7 => ?_)
 simp only [Nat.zero_add, List.nil_append]
 refine sx 1 ?_
 refine kq [2] ?_
 exact .ret (ret_out (a7, c7) (.tmp rfl .nil) trivial rfl gv)
theorem ac13n (bg : Nat) (g : Eg) (mo : Option Addr) (mc : Nat) (co : Option Addr) (cc : Nat) (oo : Option Addr) (oc : Nat) (ko : Option Addr) (kc : Nat) : AC Tryz.prog 13 ⟨[.pointer (some ⟨bg, 0, none⟩)]⟩ (stars [pt bg (blk (EgC g mo mc co cc oo oc ko kc) 76)]) (Ret (I g.ms.length) [pt bg (blk (EgC g mo mc co cc oo oc ko kc) 76)]) := by
 refine eo Tryz.func13 fun β => ?_
 refine rg 1 [0] ?_
 refine Run.seq ?_
 refine rg 2 [0, 4] ?_
 refine Run.false rfl ?_
 refine Run.skip ?_
 refine rg 6 [2] ?_
 exact .ret (ret_one (.tmp rfl .nil) rfl gv)
end
theorem get_at {α : Type} {xs : List α} {s : Int} (h : 1 ≤ s ∧ s ≤ xs.length) : ∃ (i : Nat) (x : α), xs[i]? = some x ∧ s = (i : Int) + 1 := ⟨(s - 1).toNat, xs[(s - 1).toNat]'(by omega), List.getElem?_eq_getElem (by omega), by omega⟩
section
attribute [local irreducible] OpJ RunL Run RunD DetJ pt own star Rd RdS
theorem ac15n (bg : Nat) (g : Eg) (mo : Option Addr) (mc : Nat) (co : Option Addr) (cc : Nat) (oo : Option Addr) (oc : Nat) (ko : Option Addr) (kc : Nat) (seq : Int) (hs : i64 seq) (hn : g.cs.length ≤ 1000000) : AC Tryz.prog 15 ⟨[.pointer (some ⟨bg, 0, none⟩), I seq]⟩ (stars [pt bg (blk (EgC g mo mc co cc oo oc ko kc) 76), own 32 4 co g.cs.length cc (g.cs.flatMap Co.c)]) (Ret (.tuple ⟨[.agg ⟨(costAt g.cs seq).1.c⟩, .bool (costAt g.cs seq).2]⟩) [pt bg (blk (EgC g mo mc co cc oo oc ko kc) 76), own 32 4 co g.cs.length cc (g.cs.flatMap Co.c)]) := by
 refine eo Tryz.func15 fun β => ?_
 refine sr ?_
 refine oal fun b4 => ?_
 refine sx 1 ?_
 refine kq [0, 1, 4] ?_
 refine Run.seq ?_
 refine sr ?_
 refine sx 7 ?_
 refine spl 12 rfl (fun g1 => ?_) fun g1 => ?_
 refine sx 8 ?_
 refine kq [0, 1, 4, 20] ?_
 refine Run.true rfl ?_
 refine rg 3 [4, 5] ?_
 refine Run.ret ?_
 exact ret_one (.cellA nT32 rfl pk (by rfl) (.tmp rfl .nil)) (by rw [costAt_no (by omega)]; rfl) gv
 refine sx 8 ?_
 refine kq [0, 1, 4, 20] ?_
 refine cnd rfl (fun h2 => ?_) fun h2 => ?_
 refine rg 3 [4, 5] ?_
 refine Run.ret ?_
 exact ret_one (.cellA nT32 rfl pk (by rfl) (.tmp rfl .nil)) (by rw [costAt_no (by omega)]; rfl) gv
 refine Run.skip ?_
 refine sr ?_
 obtain ⟨i, x, hx, rfl⟩ := get_at (xs := g.cs) (s := seq) (by omega)
 refine RunL.ownAddr pk (flat_ne (k := 4) (fun _ => rfl) (by decide) hx) fun b e hcapb => ?_
 subst e
 refine sx 6 ?_
 refine RunL.set (v := I (i : Int)) (congrArg I (by omega)) ?_
 refine sx 1 ?_
 refine RunL.op rfl rfl (OpJ.loadE inferInstance rfl pk hx (by exact fun _ => rfl) rfl (by decide) ?_)
 refine sx 2 ?_
 refine kq [4, 5] ?_
 refine Run.ret ?_
 exact ret_one (.cellA nT32 rfl pk (by rfl) (.tmp rfl .nil)) (by rw [costAt_ok hx]; rfl) gv
theorem ac20n (bg : Nat) (g : Eg) (mo : Option Addr) (mc : Nat) (co : Option Addr) (cc : Nat) (oo : Option Addr) (oc : Nat) (ko : Option Addr) (kc : Nat) (day : Int) (hn : g.ms.length ≤ 1000000) (hl : g.cs.length = g.ms.length) : AC Tryz.prog 20 ⟨[.pointer (some ⟨bg, 0, none⟩), I day]⟩ (stars [pt bg (blk (EgC g mo mc co cc oo oc ko kc) 76), own 35 8 mo g.ms.length mc (g.ms.flatMap Mv.c), own 32 4 co g.cs.length cc (g.cs.flatMap Co.c)]) (Ret (.tuple ⟨[I (atW Co.qty day (g.ms.zip g.cs)), I (atW Co.value day (g.ms.zip g.cs))]⟩) [pt bg (blk (EgC g mo mc co cc oo oc ko kc) 76), own 35 8 mo g.ms.length mc (g.ms.flatMap Mv.c), own 32 4 co g.cs.length cc (g.cs.flatMap Co.c)]) := by
 refine eo Tryz.func20 fun β => ?_
 refine rg 2 [0, 1, 4, 5] ?_
 refine Run.seq ?_
 refine rg 2 [0, 1, 4, 5, 9] ?_
 refine Run.false rfl ?_
 refine Run.skip ?_
 refine Run.seq ?_
 refine rg 6 [0, 1, 4, 5, 13, 14, 15] ?_
 refine Run.block ?_
 refine Run.weak (L' := [pt bg (blk (EgC g mo mc co cc oo oc ko kc) 76), own 35 8 mo g.ms.length mc (g.ms.flatMap Mv.c), own 32 4 co g.cs.length cc (g.cs.flatMap Co.c)]) (fun _ _ h => h) gv ?_
 refine Run.loop (fun mm E L => ∃ (i : Nat) (q v : Int), mm = g.ms.length - i ∧ i ≤ g.ms.length ∧ atW Co.qty day ((g.ms.zip g.cs).take i) = q ∧ atW Co.value day ((g.ms.zip g.cs).take i) = v ∧ E = [(0, .pointer (some ⟨bg, 0, none⟩)), (1, I day), (4, I q), (5, I v), (13, .slice mo g.ms.length mc), (14, I g.ms.length), (15, I i)] ∧ L = [pt bg (blk (EgC g mo mc co cc oo oc ko kc) 76), own 35 8 mo g.ms.length mc (g.ms.flatMap Mv.c), own 32 4 co g.cs.length cc (g.cs.flatMap Co.c)]) ⟨_, 0, 0, 0, rfl, Nat.zero_le _, rfl, rfl, rfl, rfl⟩ ?_
 rintro _ _ _ ⟨i, q, v, rfl, hi, hq, hv, rfl, rfl⟩
 refine rg 1 [0, 1, 4, 5, 13, 14, 15, 16] ?_
 refine Run.seq ?_
 refine cnd rfl (fun h1 => ?_) fun h1 => ?_
 refine Run.skip ?_
 refine Run.seq ?_
 refine Run.block ?_
 refine sr ?_
 obtain ⟨m, hm⟩ := get_ex (xs := g.ms) (i := i) (by omega)
 obtain ⟨x, hx⟩ := get_ex (xs := g.cs) (i := i) (by omega)
 refine RunL.ownAddr pk (flat_ne (k := 8) (fun _ => rfl) (by decide) hm) fun b e hcapb => ?_
 subst e
 refine sx 3 ?_
 refine oal fun b7 => ?_
 refine sx 2 ?_
 refine kq [0, 1, 4, 5, 6, 7, 13, 14, 15] ?_
 refine rg 4 [0, 1, 4, 5, 6, 13, 14, 15, 23] ?_
 refine cnd rfl (fun h2 => ?_) fun h2 => ?_
 refine sr ?_
 refine RunL.ownAddr pk (flat_ne (k := 4) (fun _ => rfl) (by decide) hx) fun b2 e hcapb2 => ?_
 subst e
 refine sx 9 ?_
 refine RunL.op rfl rfl (OpJ.add rfl rfl ?_)
 refine sx 1 ?_
 refine kq [0, 1, 4, 5, 6, 13, 14, 15] ?_
 refine Run.region ?_
 refine sx 9 ?_
 refine RunL.op rfl rfl (OpJ.add rfl rfl ?_)
 refine sx 1 ?_
 refine kq [0, 1, 4, 5, 13, 14, 15] ?_
 refine Run.region ?_
 refine sx 2 ?_
 exact RunL.next (Keep.sub (kt (ks := [0, 1, 4, 5, 13, 14, 15]) rfl)) _ ⟨_, by omega, i + 1, _, _, rfl, by omega, (by rw [atW_in (zip_get2 hm hx) (by assumption), hq]), (by rw [atW_in (zip_get2 hm hx) (by assumption), hv]), rfl, rfl⟩ gv
 refine Run.skip ?_
 refine Run.region ?_
 refine sx 2 ?_
 exact RunL.next (Keep.sub (kt (ks := [0, 1, 4, 5, 13, 14, 15]) rfl)) _ ⟨_, by omega, i + 1, _, _, rfl, by omega, (by rw [atW_out (zip_get2 hm hx) (by assumption), hq]), (by rw [atW_out (zip_get2 hm hx) (by assumption), hv]), rfl, rfl⟩ gv
 refine Run.exit ?_
 refine rg 4 [4, 5] ?_
 refine Run.ret ?_
 exact ret_one (.tmp rfl (.tmp rfl .nil)) (by rw [← hq, ← hv, List.take_of_length_le (by rw [List.length_zip]; omega)]; rfl) gv
theorem ac54n (bx : Nat) (bg : Nat) (g : Eg) (mo : Option Addr) (mc : Nat) (co : Option Addr) (cc : Nat) (oo : Option Addr) (oc : Nat) (ko : Option Addr) (kc : Nat) (i : Nat) (v : Int) (m : Mv) (hm : g.ms[i]? = some m) : AC Tryz.prog 54 ⟨[I i, I v, .pointer (some ⟨bx, 0, none⟩)]⟩ (stars [pt bx (blk [.pointer (some ⟨bg, 0, none⟩)] 25), pt bg (blk (EgC g mo mc co cc oo oc ko kc) 76), own 35 8 mo g.ms.length mc (g.ms.flatMap Mv.c)]) (Ret (I (if v < m.value then 1 else -1)) [pt bx (blk [.pointer (some ⟨bg, 0, none⟩)] 25), pt bg (blk (EgC g mo mc co cc oo oc ko kc) 76), own 35 8 mo g.ms.length mc (g.ms.flatMap Mv.c)]) := by
 have hi := (List.getElem?_eq_some_iff.1 hm).1
 refine eo Tryz.func54 fun β => ?_
 refine rg 1 [0, 1, 2] ?_
 refine Run.seq ?_
 refine sr ?_
 refine RunL.ownAddr pk (flat_ne (k := 8) (fun _ => rfl) (by decide) hm) fun b e hcapb => ?_
 subst e
 refine sx 7 ?_
 refine RunL.op rfl rfl (OpJ.loadO inferInstance rfl pk hm (by rfl) (by exact fun _ => rfl) ?_)
 refine sx 2 ?_
 refine kq [15] ?_
 refine cnd rfl (fun h1 => ?_) fun h1 => ?_
 refine rg 1 [5] ?_
 refine Run.ret ?_
 exact ret_one (.tmp rfl .nil) (by rw [if_neg (by omega)]; rfl) gv
 refine Run.skip ?_
 refine rg 1 [5] ?_
 refine Run.ret ?_
 exact ret_one (.tmp rfl .nil) (by rw [if_pos (by omega)]; rfl) gv
theorem ac53n (R F : HP) (fid : Nat) (cp : List Value) (cmp : Int → Int) (oa : Option Addr) (cap : Nat) (os : List Int) (v : Int) (hR : RdS R oa (os.flatMap Iv)) (hlen : os.length ≤ 1000000) (hC : CI Tryz.prog fid) (hm : Mono (fun y => decide (0 ≤ cmp y)) os) (hf : ∀ y ∈ os, AC Tryz.prog fid ⟨[I y, I v] ++ cp⟩ (stars [F]) (Ret (I (cmp y)) [F])) : AC Tryz.prog 53 ⟨[.slice oa os.length cap, I v, .func (.func fid) ⟨[]⟩ ⟨cp⟩]⟩ (stars [R, F]) (Outs (fun _ : Bool => True) (fun x => .tuple ⟨[I (cutN (fun y => decide (0 ≤ cmp y)) os), .bool x]⟩) (fun _ => [R, F])) := by
 refine eo Tryz.func53 fun β => ?_
 refine rg 2 [0, 1, 2] ?_
 refine rg 3 [0, 1, 2, 8] ?_
 refine rg 3 [0, 1, 2, 8, 9, 10] ?_
 refine Run.seq ?_
 refine Run.block ?_
 refine Run.weak (L' := [R, F]) (fun _ _ h => h) gv ?_
 refine Run.loop (fun mm E L => ∃ (i j : Nat), mm = j - i ∧ i ≤ j ∧ j ≤ os.length ∧ (∀ (k : Nat) (y : Int), k < i → os[k]? = some y → (fun y => decide (0 ≤ cmp y)) y = false) ∧ (∀ (k : Nat) (y : Int), j ≤ k → os[k]? = some y → (fun y => decide (0 ≤ cmp y)) y = true) ∧ E = [(0, .slice oa os.length cap), (1, I v), (2, .func (.func fid) ⟨[]⟩ ⟨cp⟩), (8, I os.length), (9, I i), (10, I j)] ∧ L = [R, F]) ⟨_, 0, os.length, rfl, Nat.zero_le _, Nat.le_refl _, fun k y h => by omega, fun k y h hy => by have := (List.getElem?_eq_some_iff.1 hy).1; omega, rfl, rfl⟩ ?_
 rintro _ _ _ ⟨i, j, rfl, hij, hj, hI0, hI1, rfl, rfl⟩
 refine Run.seq ?_
 refine rg 3 [0, 1, 2, 8, 9, 10, 17] ?_
 refine cnd rfl (fun h1 => ?_) fun h1 => ?_
 refine Run.skip ?_
 refine Run.block ?_
 refine sr ?_
 refine sx 4 ?_
 refine RunL.set (congrArg U (show _ = ((i : Int) + j) by rw [wrap_u64]; omega)) ?_
 refine RunL.op rfl rfl (OpJ.shrU (k := 1) rfl rfl (by omega) ?_)
 refine sx 1 ?_
 refine RunL.set (v := I (((i + j) / 2 : Nat) : Int)) (congrArg I (by rw [wrap_i64_in (by omega)]; omega)) ?_
 refine sx 1 ?_
 refine kq [0, 1, 2, 8, 9, 10, 11] ?_
 refine sr ?_
 obtain ⟨y, hmid⟩ := get_ex (xs := os) (i := (i + j) / 2) (by omega)
 refine RunL.rdOpen pk hR (flat_ne (k := 1) (fun _ => rfl) (by decide) hmid) fun b o e hrd => ?_
 subst e
 refine sx 4 ?_
 refine RunL.op rfl rfl (OpJ.load1 inferInstance rfl pk (hrd.elem (enc := Iv) (fun _ => rfl) hmid) ?_)
 refine sx 1 ?_
 refine RunL.call hC rfl rfl rfl (hf y (List.mem_of_getElem? hmid)) tks ?_
 refine sx 1 ?_
 refine kq [0, 1, 2, 8, 9, 10, 11, 31] ?_
 refine cnd rfl (fun h2 => ?_) fun h2 => ?_
 refine Run.region ?_
 refine sx 3 ?_
 exact RunL.next (Keep.sub (kt (ks := [0, 1, 2, 8, 9, 10]) rfl)) _ ⟨_, by omega, (i + j) / 2 + 1, j, rfl, by omega, hj, fun k y hk hy => hm.down hmid (decide_eq_false (by omega)) (show k ≤ (i + j) / 2 by omega) hy, hI1, rfl, rfl⟩ gv
 refine Run.region ?_
 refine sx 2 ?_
 exact RunL.next (Keep.sub (kt (ks := [0, 1, 2, 8, 9, 10]) rfl)) _ ⟨_, by omega, i, (i + j) / 2, rfl, by omega, by omega, hI0, fun k y hk hy => hm _ _ _ _ hk hmid hy (decide_eq_true (by omega)), rfl, rfl⟩ gv
 refine Run.exit ?_
 refine sr ?_
 obtain rfl : i = j := by omega
 have hcut := cutN_mid (p := (fun y => decide (0 ≤ cmp y))) (o := os) (n := i) (by omega) hI0 (fun y hy => hI1 i y (Nat.le_refl _) hy)
 refine sx 4 ?_
 by_cases hlt : i < os.length
 refine sT (by omega) ?_
 refine sx 4 ?_
 obtain ⟨y, hy⟩ := get_ex (xs := os) (i := i) (by omega)
 refine RunL.rdOpen pk hR (flat_ne (k := 1) (fun _ => rfl) (by decide) hy) fun b o e hrd => ?_
 subst e
 refine sx 1 ?_
 refine RunL.yes rfl rfl rfl rfl (OpJ.load1 inferInstance rfl pk (hrd.elem (enc := Iv) (fun _ => rfl) hy) ?_)
 refine sx 1 ?_
 refine RunL.callG hC rfl rfl rfl rfl rfl (hf y (List.mem_of_getElem? hy)) tks ?_
 refine sx 4 ?_
 refine kq [6, 7] ?_
 refine Run.ret ?_
 exact ret_out _ (.tmp rfl (.tmp rfl .nil)) trivial (by rw [hcut]; rfl) gv
 refine sF (by omega) ?_
 refine sx 12 ?_
 refine kq [6, 7] ?_
 refine Run.ret ?_
 exact ret_out _ (.tmp rfl (.tmp rfl .nil)) trivial (by rw [hcut]; rfl) gv
theorem ac35n (bg : Nat) (g : Eg) (mo : Option Addr) (mc : Nat) (co : Option Addr) (cc : Nat) (oo : Option Addr) (oc : Nat) (ko : Option Addr) (kc : Nat) (v : Int) (hn : g.ord.length ≤ 1000000) (hord : ∀ y ∈ g.ord, ∃ (i : Nat) (m : Mv), y = (i : Int) ∧ g.ms[i]? = some m) (hm : Mono (dnB g.ms v) g.ord) : AC Tryz.prog 35 ⟨[.pointer (some ⟨bg, 0, none⟩), I v]⟩ (stars [pt bg (blk (EgC g mo mc co cc oo oc ko kc) 76), own 35 8 mo g.ms.length mc (g.ms.flatMap Mv.c), own 3 1 oo g.ord.length oc (g.ord.flatMap Iv)]) (Ret (I (cutN (dnB g.ms v) g.ord)) [pt bg (blk (EgC g mo mc co cc oo oc ko kc) 76), own 35 8 mo g.ms.length mc (g.ms.flatMap Mv.c), own 3 1 oo g.ord.length oc (g.ord.flatMap Iv)]) := by
 rw [← cmpV_dn] at hm ⊢
 refine eo Tryz.func35 fun β => ?_
 refine sr ?_
 refine RunL.op rfl rfl (OpJ.box rfl rfl fun b2 => ?_)
 refine sx 1 ?_
 refine kq [1, 2] ?_
 refine sr ?_
 refine sx 6 ?_
 refine RunL.packs [pt b2 (blk [.pointer (some ⟨bg, 0, none⟩)] 25), pt bg (blk (EgC g mo mc co cc oo oc ko kc) 76), own 35 8 mo g.ms.length mc (g.ms.flatMap Mv.c)] tks ?_
 refine RunL.callX nC53 rfl rfl rfl (ac53n (own 3 1 oo g.ord.length oc (g.ord.flatMap Iv)) (stars [pt b2 (blk [.pointer (some ⟨bg, 0, none⟩)] 25), pt bg (blk (EgC g mo mc co cc oo oc ko kc) 76), own 35 8 mo g.ms.length mc (g.ms.flatMap Mv.c)]) 54 [.pointer (some ⟨b2, 0, none⟩)] (cmpV g.ms v) oo oc g.ord v own.rds hn nC54 hm (fun y hy => by obtain ⟨i, m, rfl, hx⟩ := hord y hy; rw [cmpV_at hx]; exact AC.one (ac54n b2 bg g mo mc co cc oo oc ko kc i v m hx))) tks fun fo _ => ?_
 refine RunL.unstar (As := [pt b2 (blk [.pointer (some ⟨bg, 0, none⟩)] 25), pt bg (blk (EgC g mo mc co cc oo oc ko kc) 76), own 35 8 mo g.ms.length mc (g.ms.flatMap Mv.c)]) pk ?_
 refine sx 5 ?_
 refine kq [5] ?_
 refine rg 2 [4] ?_
 exact .ret (ret_one (.tmp rfl .nil) rfl gv)
theorem ac23n (bg : Nat) (g : Eg) (mo : Option Addr) (mc : Nat) (co : Option Addr) (cc : Nat) (oo : Option Addr) (oc : Nat) (ko : Option Addr) (kc : Nat) (hn : g.ms.length ≤ 1000000) : AC Tryz.prog 23 ⟨[.pointer (some ⟨bg, 0, none⟩)]⟩ (stars [pt bg (blk (EgC g mo mc co cc oo oc ko kc) 76), own 35 8 mo g.ms.length mc (g.ms.flatMap Mv.c)]) (Outs (fun _ : Nat => True) (fun b => .slice (some ⟨b, 0, none⟩) g.ms.length g.ms.length) (fun b => [own 35 8 (some ⟨b, 0, none⟩) g.ms.length g.ms.length (g.ms.flatMap Mv.c), pt bg (blk (EgC g mo mc co cc oo oc ko kc) 76), own 35 8 mo g.ms.length mc (g.ms.flatMap Mv.c)])) := by
 refine eo Tryz.func23 fun β => ?_
 refine rg 1 [0] ?_
 refine Run.seq ?_
 refine rg 2 [0, 4] ?_
 refine Run.false rfl ?_
 refine Run.skip ?_
 refine sr ?_
 refine sx 5 ?_
 refine RunL.op rfl rfl (OpJ.make nS24 nM35 rfl rfl (by omega) (by omega) fun b10 => ?_)
 refine sx 1 ?_
 refine kq [0, 2] ?_
 refine sr ?_
 refine sx 5 ?_
 refine RunL.op rfl rfl (OpJ.copyAll nS24 rfl rfl up pk own.rds (flat_len (enc := Mv.c) (k := 8) (fun _ => rfl) _) (by simp) (flat_one mv1 _) ?_)
 refine kq [2] ?_
 refine rg 2 [2] ?_
 exact .ret (ret_out b10 (.tmp rfl .nil) trivial rfl gv)
theorem ac25n (bg : Nat) (g : Eg) (mo : Option Addr) (mc : Nat) (co : Option Addr) (cc : Nat) (oo : Option Addr) (oc : Nat) (ko : Option Addr) (kc : Nat) (KL KP : HP) (hn : g.last.s.layers.length ≤ 1000000 ∧ g.last.s.past.length ≤ 1000000) (hKL : RdS KL g.last.la (g.last.s.layers.flatMap Ly.c)) (hKP : RdS KP g.last.pa (g.last.s.past.flatMap Pa.c)) : AC Tryz.prog 25 ⟨[.pointer (some ⟨bg, 0, none⟩)]⟩ (stars [pt bg (blk (EgC g mo mc co cc oo oc ko kc) 76), KL, KP]) (Outs (fun _ : Option Addr × Nat × Option Addr × Nat => True) (fun x => .agg ⟨g.last.s.c x.1 x.2.1 x.2.2.1 x.2.2.2⟩) (fun x => [own 96 4 x.1 g.last.s.layers.length x.2.1 (g.last.s.layers.flatMap Ly.c), own 98 7 x.2.2.1 g.last.s.past.length x.2.2.2 (g.last.s.past.flatMap Pa.c), pt bg (blk (EgC g mo mc co cc oo oc ko kc) 76), KL, KP])) := by
 refine eo Tryz.func25 fun β => ?_
 refine sr ?_
 refine oal fun b2 => ?_
 refine kq [0, 2] ?_
 refine Run.seq ?_
 refine rg 2 [0, 2, 4] ?_
 refine Run.false rfl ?_
 refine Run.skip ?_
 refine rg 5 [2] ?_
 refine sr ?_
 refine sx 2 ?_
 refine RunL.callX nC44 rfl rfl rfl (cl44 KL g.last.la g.last.lc g.last.s.layers hKL hn.1) tks fun ⟨l1, lc1⟩ _ => ?_
 refine sx 2 ?_
 refine kq [2] ?_
 refine sr ?_
 refine sx 2 ?_
 refine RunL.callX nC45 rfl rfl rfl (cl45 KP g.last.pa g.last.pc g.last.s.past hKP hn.2) tks fun ⟨p1, pc1⟩ _ => ?_
 refine sx 2 ?_
 refine kq [2] ?_
 refine rg 2 [2] ?_
 exact .ret (ret_out (l1, lc1, p1, pc1) (.cellA nT61 rfl pk (by rfl) .nil) trivial rfl gv)
end
end Go.Proofs.YtcpghpifbgpkjaaGreatDoor

namespace Go.Proofs.YtcpghpifbgpkjaaGreatDoor
open Go Go.SL Go.Proofs
instance A135 : AI Tryz.prog 192 190 2 := .of (by kernel_rfl) (by kernel_rfl)
instance A149 : AI Tryz.prog 176 3 12 := .of (by kernel_rfl) (by kernel_rfl)
instance B115 : BI Tryz.prog 133 [.int .i64 0, .int .i64 0, .int .i64 0] [(0, 1), (1, 1), (2, 1)] := .of (by kernel_rfl) (by kernel_rfl)
instance B135 : BAI Tryz.prog 192 [.int .u64 0, .int .u64 0] := .of (by kernel_rfl) (by kernel_rfl)
instance B28 : BI Tryz.prog 61 [.int .i64 0, .int .i64 0, .int .i64 0, .slice none 0 0, .slice none 0 0] [(0, 1), (1, 1), (2, 1), (3, 1), (4, 1)] := .of (by kernel_rfl) (by kernel_rfl)
instance B43 : BI Tryz.prog 32 [.int .i64 0, .int .i64 0, .int .i64 0, .int .i64 0] [(0, 1), (1, 1), (2, 1), (3, 1)] := .of (by kernel_rfl) (by kernel_rfl)
instance B47 : BI Tryz.prog 35 [.int .i64 0, .int .i64 0, .string ⟨#[]⟩, .int .i64 0, .int .i64 0, .int .i64 0, .string ⟨#[]⟩, .int .i64 0] [(0, 1), (1, 1), (2, 1), (3, 1), (4, 1), (5, 1), (6, 1), (7, 1)] := .of (by kernel_rfl) (by kernel_rfl)
instance B56 : BI Tryz.prog 105 [.int .i64 0, .int .i64 0, .int .i64 0, .int .i64 0, .slice none 0 0, .slice none 0 0, .slice none 0 0] [(0, 1), (1, 5), (6, 1)] := .of (by kernel_rfl) (by kernel_rfl)
instance B64 : BI Tryz.prog 96 [.int .i64 0, .string ⟨#[]⟩, .int .i64 0, .int .i64 0] [(0, 1), (1, 1), (2, 1), (3, 1)] := .of (by kernel_rfl) (by kernel_rfl)
instance B66 : BI Tryz.prog 98 [.int .i64 0, .int .i64 0, .string ⟨#[]⟩, .int .i64 0, .int .i64 0, .int .i64 0, .int .i64 0] [(0, 1), (1, 1), (2, 1), (3, 1), (4, 1), (5, 1), (6, 1)] := .of (by kernel_rfl) (by kernel_rfl)
instance B70 : BI Tryz.prog 142 [.int .i64 0, .int .i64 0, .int .i64 0, .slice none 0 0, .slice none 0 0, .int .i64 0, .int .i64 0, .string ⟨#[]⟩, .int .i64 0, .int .i64 0, .int .i64 0, .string ⟨#[]⟩, .int .i64 0, .int .i64 0, .int .i64 0, .int .i64 0, .int .i64 0] [(0, 5), (5, 8), (13, 4)] := .of (by kernel_rfl) (by kernel_rfl)
instance B82 : BI Tryz.prog 153 [.int .i64 0, .int .i64 0] [(0, 1), (1, 1)] := .of (by kernel_rfl) (by kernel_rfl)
instance B85 : BI Tryz.prog 156 [.int .i64 0, .int .i64 0, .int .i64 0, .slice none 0 0, .slice none 0 0, .int .i64 0, .int .i64 0, .string ⟨#[]⟩, .int .i64 0, .int .i64 0, .int .i64 0, .string ⟨#[]⟩, .int .i64 0, .int .i64 0, .int .i64 0, .int .i64 0, .int .i64 0] [(0, 5), (5, 8), (13, 4)] := .of (by kernel_rfl) (by kernel_rfl)
instance B92 : BI Tryz.prog 162 [.int .i64 0, .int .i64 0, .int .i64 0, .slice none 0 0, .slice none 0 0] [(0, 5)] := .of (by kernel_rfl) (by kernel_rfl)
instance C100 : CI Tryz.prog 153 := .k
instance C101 : CI Tryz.prog 154 := .k
instance C102 : CI Tryz.prog 155 := .k
instance C103 : CI Tryz.prog 156 := .k
instance C104 : CI Tryz.prog 157 := .k
instance C105 : CI Tryz.prog 81 := .k
instance C106 : CI Tryz.prog 82 := .k
instance C107 : CI Tryz.prog 83 := .k
instance C108 : CI Tryz.prog 84 := .k
instance C109 : CI Tryz.prog 85 := .k
instance C11 : CI Tryz.prog 11 := .k
instance C110 : CI Tryz.prog 159 := .k
instance C111 : CI Tryz.prog 160 := .k
instance C112 : CI Tryz.prog 161 := .k
instance C113 : CI Tryz.prog 162 := .k
instance C114 : CI Tryz.prog 163 := .k
instance C115 : CI Tryz.prog 164 := .k
instance C116 : CI Tryz.prog 165 := .k
instance C117 : CI Tryz.prog 166 := .k
instance C118 : CI Tryz.prog 167 := .k
instance C119 : CI Tryz.prog 168 := .k
instance C12 : CI Tryz.prog 12 := .k
instance C120 : CI Tryz.prog 169 := .k
instance C121 : CI Tryz.prog 170 := .k
instance C122 : CI Tryz.prog 171 := .k
instance C123 : CI Tryz.prog 172 := .k
instance C124 : CI Tryz.prog 173 := .k
instance C125 : CI Tryz.prog 174 := .k
instance C126 : CI Tryz.prog 175 := .k
instance C127 : CI Tryz.prog 76 := .k
instance C128 : CI Tryz.prog 77 := .k
instance C129 : CI Tryz.prog 78 := .k
instance C13 : CI Tryz.prog 31 := .k
instance C130 : CI Tryz.prog 79 := .k
instance C131 : CI Tryz.prog 60 := .k
instance C132 : CI Tryz.prog 176 := .k
instance C133 : CI Tryz.prog 177 := .k
instance C134 : CI Tryz.prog 178 := .k
instance C135 : CI Tryz.prog 179 := .k
instance C136 : CI Tryz.prog 180 := .k
instance C137 : CI Tryz.prog 181 := .k
instance C138 : CI Tryz.prog 182 := .k
instance C139 : CI Tryz.prog 183 := .k
instance C14 : CI Tryz.prog 40 := .k
instance C140 : CI Tryz.prog 184 := .k
instance C141 : CI Tryz.prog 185 := .k
instance C142 : CI Tryz.prog 186 := .k
instance C143 : CI Tryz.prog 187 := .k
instance C144 : CI Tryz.prog 188 := .k
instance C145 : CI Tryz.prog 189 := .k
instance C146 : CI Tryz.prog 190 := .k
instance C147 : CI Tryz.prog 117 := .k
instance C148 : CI Tryz.prog 118 := .k
instance C149 : CI Tryz.prog 119 := .k
instance C15 : CI Tryz.prog 30 := .k
instance C150 : CI Tryz.prog 191 := .k
instance C151 : CI Tryz.prog 192 := .k
instance C152 : CI Tryz.prog 193 := .k
instance C153 : CI Tryz.prog 194 := .k
instance C154 : CI Tryz.prog 195 := .k
instance C155 : CI Tryz.prog 196 := .k
instance C156 : CI Tryz.prog 197 := .k
instance C157 : CI Tryz.prog 198 := .k
instance C158 : CI Tryz.prog 110 := .k
instance C159 : CI Tryz.prog 111 := .k
instance C16 : CI Tryz.prog 62 := .k
instance C160 : CI Tryz.prog 112 := .k
instance C161 : CI Tryz.prog 199 := .k
instance C162 : CI Tryz.prog 200 := .k
instance C163 : CI Tryz.prog 201 := .k
instance C164 : CI Tryz.prog 202 := .k
instance C165 : CI Tryz.prog 203 := .k
instance C166 : CI Tryz.prog 204 := .k
instance C167 : CI Tryz.prog 205 := .k
instance C168 : CI Tryz.prog 206 := .k
instance C169 : CI Tryz.prog 207 := .k
instance C17 : CI Tryz.prog 24 := .k
instance C170 : CI Tryz.prog 208 := .k
instance C171 : CI Tryz.prog 209 := .k
instance C172 : CI Tryz.prog 210 := .k
instance C173 : CI Tryz.prog 211 := .k
instance C174 : CI Tryz.prog 212 := .k
instance C175 : CI Tryz.prog 158 := .k
instance C18 : CI Tryz.prog 18 := .k
instance C19 : CI Tryz.prog 58 := .k
instance C20 : CI Tryz.prog 72 := .k
instance C21 : CI Tryz.prog 73 := .k
instance C22 : CI Tryz.prog 74 := .k
instance C23 : CI Tryz.prog 75 := .k
instance C24 : CI Tryz.prog 24 := .k
instance C25 : CI Tryz.prog 25 := .k
instance C26 : CI Tryz.prog 48 := .k
instance C27 : CI Tryz.prog 49 := .k
instance C28 : CI Tryz.prog 80 := .k
instance C29 : CI Tryz.prog 87 := .k
instance C30 : CI Tryz.prog 50 := .k
instance C31 : CI Tryz.prog 88 := .k
instance C32 : CI Tryz.prog 89 := .k
instance C33 : CI Tryz.prog 90 := .k
instance C34 : CI Tryz.prog 91 := .k
instance C35 : CI Tryz.prog 92 := .k
instance C36 : CI Tryz.prog 93 := .k
instance C37 : CI Tryz.prog 94 := .k
instance C38 : CI Tryz.prog 95 := .k
instance C39 : CI Tryz.prog 96 := .k
instance C40 : CI Tryz.prog 97 := .k
instance C41 : CI Tryz.prog 98 := .k
instance C42 : CI Tryz.prog 99 := .k
instance C43 : CI Tryz.prog 100 := .k
instance C44 : CI Tryz.prog 101 := .k
instance C45 : CI Tryz.prog 102 := .k
instance C46 : CI Tryz.prog 103 := .k
instance C47 : CI Tryz.prog 104 := .k
instance C48 : CI Tryz.prog 105 := .k
instance C49 : CI Tryz.prog 106 := .k
instance C50 : CI Tryz.prog 107 := .k
instance C51 : CI Tryz.prog 108 := .k
instance C52 : CI Tryz.prog 109 := .k
instance C53 : CI Tryz.prog 53 := .k
instance C54 : CI Tryz.prog 113 := .k
instance C55 : CI Tryz.prog 114 := .k
instance C56 : CI Tryz.prog 115 := .k
instance C57 : CI Tryz.prog 116 := .k
instance C58 : CI Tryz.prog 64 := .k
instance C59 : CI Tryz.prog 65 := .k
instance C60 : CI Tryz.prog 66 := .k
instance C61 : CI Tryz.prog 67 := .k
instance C62 : CI Tryz.prog 68 := .k
instance C63 : CI Tryz.prog 69 := .k
instance C64 : CI Tryz.prog 51 := .k
instance C65 : CI Tryz.prog 120 := .k
instance C66 : CI Tryz.prog 121 := .k
instance C67 : CI Tryz.prog 122 := .k
instance C68 : CI Tryz.prog 123 := .k
instance C69 : CI Tryz.prog 124 := .k
instance C70 : CI Tryz.prog 125 := .k
instance C71 : CI Tryz.prog 126 := .k
instance C72 : CI Tryz.prog 44 := .k
instance C73 : CI Tryz.prog 127 := .k
instance C74 : CI Tryz.prog 128 := .k
instance C75 : CI Tryz.prog 129 := .k
instance C76 : CI Tryz.prog 130 := .k
instance C77 : CI Tryz.prog 131 := .k
instance C78 : CI Tryz.prog 132 := .k
instance C79 : CI Tryz.prog 133 := .k
instance C80 : CI Tryz.prog 134 := .k
instance C81 : CI Tryz.prog 135 := .k
instance C82 : CI Tryz.prog 136 := .k
instance C83 : CI Tryz.prog 137 := .k
instance C84 : CI Tryz.prog 138 := .k
instance C85 : CI Tryz.prog 139 := .k
instance C86 : CI Tryz.prog 140 := .k
instance C87 : CI Tryz.prog 141 := .k
instance C88 : CI Tryz.prog 142 := .k
instance C89 : CI Tryz.prog 143 := .k
instance C90 : CI Tryz.prog 144 := .k
instance C91 : CI Tryz.prog 59 := .k
instance C92 : CI Tryz.prog 145 := .k
instance C93 : CI Tryz.prog 146 := .k
instance C94 : CI Tryz.prog 147 := .k
instance C95 : CI Tryz.prog 148 := .k
instance C96 : CI Tryz.prog 149 := .k
instance C97 : CI Tryz.prog 150 := .k
instance C98 : CI Tryz.prog 151 := .k
instance C99 : CI Tryz.prog 152 := .k
instance EI135 : EI Tryz.prog 192 [.int, .int] := .of (by kernel_rfl)
instance EI43 : EI Tryz.prog 32 [.int, .int, .int, .int] := .of (by kernel_rfl)
instance EI64 : EI Tryz.prog 96 [.int, .str, .int, .int] := .of (by kernel_rfl)
instance EI66 : EI Tryz.prog 98 [.int, .int, .str, .int, .int, .int, .int] := .of (by kernel_rfl)
instance EI82 : EI Tryz.prog 153 [.int, .int] := .of (by kernel_rfl)
instance F115_0 : FI Tryz.prog 133 0 3 0 := .k
instance F115_1 : FI Tryz.prog 133 1 3 1 := .k
instance F115_2 : FI Tryz.prog 133 2 3 2 := .k
instance F28_0 : FI Tryz.prog 61 0 3 0 := .k
instance F28_1 : FI Tryz.prog 61 1 3 1 := .k
instance F28_2 : FI Tryz.prog 61 2 3 2 := .k
instance F28_3 : FI Tryz.prog 61 3 58 3 := .k
instance F28_4 : FI Tryz.prog 61 4 59 4 := .k
instance F43_0 : FI Tryz.prog 32 0 3 0 := .k
instance F43_1 : FI Tryz.prog 32 1 3 1 := .k
instance F43_2 : FI Tryz.prog 32 2 3 2 := .k
instance F43_3 : FI Tryz.prog 32 3 3 3 := .k
instance F47_0 : FI Tryz.prog 35 0 3 0 := .k
instance F47_1 : FI Tryz.prog 35 1 3 1 := .k
instance F47_2 : FI Tryz.prog 35 2 9 2 := .k
instance F47_3 : FI Tryz.prog 35 3 3 3 := .k
instance F47_4 : FI Tryz.prog 35 4 3 4 := .k
instance F47_5 : FI Tryz.prog 35 5 3 5 := .k
instance F47_6 : FI Tryz.prog 35 6 9 6 := .k
instance F47_7 : FI Tryz.prog 35 7 3 7 := .k
instance F56_0 : FI Tryz.prog 105 0 3 0 := .k
instance F56_1 : FI Tryz.prog 105 1 61 1 := .k
instance F56_2 : FI Tryz.prog 105 2 33 6 := .k
instance F64_0 : FI Tryz.prog 96 0 3 0 := .k
instance F64_1 : FI Tryz.prog 96 1 9 1 := .k
instance F64_2 : FI Tryz.prog 96 2 3 2 := .k
instance F64_3 : FI Tryz.prog 96 3 3 3 := .k
instance F66_0 : FI Tryz.prog 98 0 3 0 := .k
instance F66_1 : FI Tryz.prog 98 1 3 1 := .k
instance F66_2 : FI Tryz.prog 98 2 9 2 := .k
instance F66_3 : FI Tryz.prog 98 3 3 3 := .k
instance F66_4 : FI Tryz.prog 98 4 3 4 := .k
instance F66_5 : FI Tryz.prog 98 5 3 5 := .k
instance F66_6 : FI Tryz.prog 98 6 3 6 := .k
instance F70_0 : FI Tryz.prog 142 0 61 0 := .k
instance F70_1 : FI Tryz.prog 142 1 35 5 := .k
instance F70_2 : FI Tryz.prog 142 2 32 13 := .k
instance F85_0 : FI Tryz.prog 156 0 61 0 := .k
instance F85_1 : FI Tryz.prog 156 1 35 5 := .k
instance F85_2 : FI Tryz.prog 156 2 32 13 := .k
instance F92_0 : FI Tryz.prog 162 0 61 0 := .k
instance M3 : MI Tryz.prog 3 1 8 [.int .i64 0] := .of (by kernel_rfl) rfl
instance M43 : MI Tryz.prog 32 4 32 [.int .i64 0, .int .i64 0, .int .i64 0, .int .i64 0] := .of (by kernel_rfl) rfl
instance M64 : MI Tryz.prog 96 4 40 [.int .i64 0, .string ⟨#[]⟩, .int .i64 0, .int .i64 0] := .of (by kernel_rfl) rfl
instance M66 : MI Tryz.prog 98 7 64 [.int .i64 0, .int .i64 0, .string ⟨#[]⟩, .int .i64 0, .int .i64 0, .int .i64 0, .int .i64 0] := .of (by kernel_rfl) rfl
instance S22 : SI Tryz.prog 24 35 8 := .of (by kernel_rfl) (by kernel_rfl)
instance S25 : SI Tryz.prog 58 96 4 := .of (by kernel_rfl) (by kernel_rfl)
instance S26 : SI Tryz.prog 59 98 7 := .of (by kernel_rfl) (by kernel_rfl)
instance S34 : SI Tryz.prog 33 32 4 := .of (by kernel_rfl) (by kernel_rfl)
instance S50 : SI Tryz.prog 74 3 1 := .of (by kernel_rfl) (by kernel_rfl)
instance T115 : TI Tryz.prog 133 true 3 := .k
instance T133 : TI Tryz.prog 190 false 1 := .k
instance T135 : TI Tryz.prog 192 true 2 := .k
instance T25 : TI Tryz.prog 58 false 1 := .k
instance T26 : TI Tryz.prog 59 false 1 := .k
instance T28 : TI Tryz.prog 61 true 5 := .k
instance T3 : TI Tryz.prog 3 false 1 := .k
instance T34 : TI Tryz.prog 33 false 1 := .k
instance T43 : TI Tryz.prog 32 true 4 := .k
instance T47 : TI Tryz.prog 35 true 8 := .k
instance T64 : TI Tryz.prog 96 true 4 := .k
instance T66 : TI Tryz.prog 98 true 7 := .k
instance T82 : TI Tryz.prog 153 true 2 := .k
instance T88 : TI Tryz.prog 158 false 1 := .k
instance T9 : TI Tryz.prog 9 false 1 := .k
theorem U133 : Tryz.prog.underlying 190 = some (.int .u64) := by kernel_rfl
instance UV133 : UI Tryz.prog 190 (.int .u64) := ⟨U133⟩
theorem U3 : Tryz.prog.underlying 3 = some (.int .i64) := by kernel_rfl
instance UV3 : UI Tryz.prog 3 (.int .i64) := ⟨U3⟩
theorem U4 : Tryz.prog.underlying 4 = some .bool := by kernel_rfl
instance UV4 : UI Tryz.prog 4 .bool := ⟨U4⟩
theorem U71 : Tryz.prog.underlying 143 = some (.pointer (Tryz.prog.pointee 143)) := by kernel_rfl
instance UP71 : PI Tryz.prog 143 := ⟨U71⟩
theorem U9 : Tryz.prog.underlying 9 = some .string := by kernel_rfl
instance UV9 : UI Tryz.prog 9 .string := ⟨U9⟩
theorem U133s : (Tryz.prog.underlying 190).isSome = true := by kernel_rfl
instance UW133 : SoI Tryz.prog 190 := ⟨U133s⟩
theorem U3s : (Tryz.prog.underlying 3).isSome = true := by kernel_rfl
instance UW3 : SoI Tryz.prog 3 := ⟨U3s⟩
instance Z115 : ZI Tryz.prog 133 [.int .i64 0, .int .i64 0, .int .i64 0] := .of (by kernel_rfl)
instance Z135 : ZI Tryz.prog 192 [.int .u64 0, .int .u64 0] := .of (by kernel_rfl)
instance Z28 : ZI Tryz.prog 61 [.int .i64 0, .int .i64 0, .int .i64 0, .slice none 0 0, .slice none 0 0] := .of (by kernel_rfl)
instance Z3 : ZI Tryz.prog 3 [.int .i64 0] := .of (by kernel_rfl)
instance Z43 : ZI Tryz.prog 32 [.int .i64 0, .int .i64 0, .int .i64 0, .int .i64 0] := .of (by kernel_rfl)
instance Z47 : ZI Tryz.prog 35 [.int .i64 0, .int .i64 0, .string ⟨#[]⟩, .int .i64 0, .int .i64 0, .int .i64 0, .string ⟨#[]⟩, .int .i64 0] := .of (by kernel_rfl)
instance Z64 : ZI Tryz.prog 96 [.int .i64 0, .string ⟨#[]⟩, .int .i64 0, .int .i64 0] := .of (by kernel_rfl)
instance Z66 : ZI Tryz.prog 98 [.int .i64 0, .int .i64 0, .string ⟨#[]⟩, .int .i64 0, .int .i64 0, .int .i64 0, .int .i64 0] := .of (by kernel_rfl)
end Go.Proofs.YtcpghpifbgpkjaaGreatDoor

namespace Go.Proofs.YtcpghpifbgpkjaaGreatDoor
open Go Go.SL Go.Proofs
section
attribute [local irreducible] OpJ RunL Run RunD DetJ pt own star Rd RdS
theorem ac47 (a b : Int) (ha : i64 a) (hb : i64 b) : AC Tryz.prog 104 ⟨[I a, I b]⟩ (stars []) (Ret (.tuple ⟨[I (addN a b), Bo (addOk a b)]⟩) []) := by
 refine eo Tryz.func104 fun β => ?_
 refine rg 2 [0, 1] ?_
 refine sr ?_
 refine sx 2 ?_
 refine RunL.op rfl rfl (OpJ.add rfl rfl ?_)
 refine sx 1 ?_
 refine kq [0, 1, 4] ?_
 refine Run.seq ?_
 refine sr ?_
 refine sx 7 ?_
 refine spl 15 rfl (fun g1 => ?_) fun g1 => ?_
 refine sx 3 ?_
 refine kq [4, 18] ?_
 refine cnd rfl (fun h2 => ?_) fun h2 => ?_
 refine rg 2 [4, 5] ?_
 exact .ret (ret_one (.tmp rfl (.tmp rfl .nil)) (add_r1 ha hb g1 h2) gv)
 refine Run.skip ?_
 refine rg 3 [4, 5] ?_
 exact .ret (ret_one (.tmp rfl (.tmp rfl .nil)) (add_r2 ha hb (.inr h2)) gv)
 refine sx 3 ?_
 refine kq [4, 18] ?_
 refine Run.false rfl ?_
 refine Run.skip ?_
 refine rg 3 [4, 5] ?_
 exact .ret (ret_one (.tmp rfl (.tmp rfl .nil)) (add_r2 ha hb (.inl g1)) gv)
theorem ac119 (a b : Int) (ha : i64 a) (hb : i64 b) : AC Tryz.prog 168 ⟨[I a, I b]⟩ (stars []) (Ret (.tuple ⟨[I (subN a b), Bo (subOk a b)]⟩) []) := by
 refine eo Tryz.func168 fun β => ?_
 refine rg 2 [0, 1] ?_
 refine sr ?_
 refine sx 2 ?_
 refine RunL.op rfl rfl (OpJ.sub rfl rfl ?_)
 refine sx 1 ?_
 refine kq [0, 1, 4] ?_
 refine Run.seq ?_
 refine sr ?_
 refine sx 7 ?_
 refine spl 15 rfl (fun g1 => ?_) fun g1 => ?_
 refine sx 3 ?_
 refine kq [4, 18] ?_
 refine cnd rfl (fun h2 => ?_) fun h2 => ?_
 refine rg 2 [4, 5] ?_
 exact .ret (ret_one (.tmp rfl (.tmp rfl .nil)) (sub_r1 ha hb g1 h2) gv)
 refine Run.skip ?_
 refine rg 3 [4, 5] ?_
 exact .ret (ret_one (.tmp rfl (.tmp rfl .nil)) (sub_r2 ha hb (.inr h2)) gv)
 refine sx 3 ?_
 refine kq [4, 18] ?_
 refine Run.false rfl ?_
 refine Run.skip ?_
 refine rg 3 [4, 5] ?_
 exact .ret (ret_one (.tmp rfl (.tmp rfl .nil)) (sub_r2 ha hb (.inl g1)) gv)
theorem ac157 (n : Int) (hn : i64 n) : AC Tryz.prog 198 ⟨[I n]⟩ (stars []) (Ret (U (mag n)) []) := by
 refine eo Tryz.func198 fun β => ?_
 refine rg 1 [0] ?_
 refine Run.seq ?_
 refine rg 2 [0, 4] ?_
 refine cnd rfl (fun h1 => ?_) fun h1 => ?_
 refine rg 4 [2] ?_
 exact .ret (ret_one (.tmp rfl .nil) (congrArg U (mag_conv_neg hn h1)) gv)
 refine Run.skip ?_
 refine rg 3 [2] ?_
 exact .ret (ret_one (.tmp rfl .nil) (congrArg U (mag_conv_pos hn h1)) gv)
theorem ac151 (n : Int) (hn : i64 n) : AC Tryz.prog 192 ⟨[I n]⟩ (stars []) (Ret (U (mag n)) []) := by
 refine eo Tryz.func192 fun β => ?_
 refine rg 1 [0] ?_
 refine Run.seq ?_
 refine rg 2 [0, 4] ?_
 refine cnd rfl (fun h1 => ?_) fun h1 => ?_
 refine rg 4 [2] ?_
 exact .ret (ret_one (.tmp rfl .nil) (congrArg U (mag_conv_neg hn h1)) gv)
 refine Run.skip ?_
 refine rg 3 [2] ?_
 exact .ret (ret_one (.tmp rfl .nil) (congrArg U (mag_conv_pos hn h1)) gv)
theorem ac153 (mode r c : Int) (neg odd : Bool) (hr : u64 r) (hc : u64 c) (hrc : r < c) : AC Tryz.prog 194 ⟨[I mode, Bo neg, Bo odd, U r, U c]⟩ (stars []) (Ret (Bo (awayB mode neg odd r c)) []) := by
 refine eo Tryz.func194 fun β => ?_
 refine rg 1 [0, 1, 2, 3, 4] ?_
 refine Run.seq ?_
 refine rg 2 [0, 1, 2, 3, 4, 13] ?_
 refine cnd rfl (fun h1 => ?_) fun h1 => ?_
 refine rg 1 [10] ?_
 refine Run.ret ?_
 exact ret_one (.tmp rfl .nil) (by clear hr hc; (try (rename r = c - r => e; have e2 := decide_eq_true e; clear e)); first | (simp [tup, awayB, *]; done) | (exfalso; omega)) .nil
 refine Run.skip ?_
 refine sr ?_
 refine sx 2 ?_
 refine RunL.op rfl rfl (OpJ.subU rfl rfl (by omega) ?_)
 refine sx 1 ?_
 refine kq [0, 1, 2, 3, 11] ?_
 refine Run.seq ?_
 refine rg 1 [1, 2, 3, 11, 17] ?_
 refine Run.block ?_
 refine rg 2 [1, 2, 3, 11, 17, 18] ?_
 refine cnd rfl (fun h2 => ?_) fun h2 => ?_
 refine rg 1 [10] ?_
 refine Run.ret ?_
 exact ret_one (.tmp rfl .nil) (by clear hr hc; (try (rename r = c - r => e; have e2 := decide_eq_true e; clear e)); first | (simp [tup, awayB, *]; done) | (exfalso; omega)) .nil
 refine rg 2 [1, 2, 3, 11, 17, 20] ?_
 refine cnd rfl (fun h3 => ?_) fun h3 => ?_
 refine rg 4 [10] ?_
 refine Run.ret ?_
 exact ret_one (.tmp rfl .nil) (by clear hr hc; (try (rename r = c - r => e; have e2 := decide_eq_true e; clear e)); first | (simp [tup, awayB, *]; done) | (exfalso; omega)) .nil
 refine rg 2 [1, 2, 3, 11, 17, 25] ?_
 refine cnd rfl (fun h4 => ?_) fun h4 => ?_
 refine sr ?_
 refine sx 4 ?_
 refine spl 30 rfl (fun g5 => ?_) fun g5 => ?_
 refine sx 8 ?_
 refine kq [10] ?_
 refine Run.ret ?_
 exact ret_one (.tmp rfl .nil) (by clear hr hc; (try (rename r = c - r => e; have e2 := decide_eq_true e; clear e)); first | (simp [tup, awayB, *]; done) | (exfalso; omega)) .nil
 refine sx 4 ?_
 refine spl 34 rfl (fun g6 => ?_) fun g6 => ?_
 refine sx 4 ?_
 refine kq [10] ?_
 refine Run.ret ?_
 exact ret_one (.tmp rfl .nil) (by clear hr hc; (try (rename r = c - r => e; have e2 := decide_eq_true e; clear e)); first | (simp [tup, awayB, *]; done) | (exfalso; omega)) .nil
 refine sx 4 ?_
 refine kq [10] ?_
 refine Run.ret ?_
 exact ret_one (.tmp rfl .nil) (by clear hr hc; (try (rename r = c - r => e; have e2 := decide_eq_true e; clear e)); first | (simp [tup, awayB, *]; done) | (exfalso; omega)) .nil
 refine rg 2 [1, 38] ?_
 refine cnd rfl (fun h7 => ?_) fun h7 => ?_
 refine rg 2 [10] ?_
 refine Run.ret ?_
 exact ret_one (.tmp rfl .nil) (by clear hr hc; (try (rename r = c - r => e; have e2 := decide_eq_true e; clear e)); first | (simp [tup, awayB, *]; done) | (exfalso; omega)) .nil
 refine Run.skip ?_
 refine rg 1 [10] ?_
 refine Run.ret ?_
 exact ret_one (.tmp rfl .nil) (by clear hr hc; (try (rename r = c - r => e; have e2 := decide_eq_true e; clear e)); first | (simp [tup, awayB, *]; done) | (exfalso; omega)) .nil
theorem ac154 (neg : Bool) (size : Int) (hs : u64 size) : AC Tryz.prog 195 ⟨[Bo neg, U size]⟩ (stars []) (Ret (.tuple ⟨[I (signedN neg size), I (signedE neg size)]⟩) []) := by
 refine eo Tryz.func195 fun β => ?_
 refine rg 2 [0, 1] ?_
 refine Run.seq ?_
 refine rg 1 [1, 6] ?_
 refine cnd rfl (fun h1 => ?_) fun h1 => ?_
 refine Run.seq ?_
 refine rg 2 [1, 8] ?_
 refine cnd rfl (fun h2 => ?_) fun h2 => ?_
 refine rg 2 [4, 5] ?_
 refine Run.ret ?_
 exact ret_one (.tmp rfl (.tmp rfl .nil)) (by rw [signedN, signedE, if_pos h1, if_pos h1, if_pos h2, if_pos h2]; rfl) gv
 refine Run.skip ?_
 refine sr ?_
 refine sx 1 ?_
 refine RunL.op rfl rfl (OpJ.sub rfl rfl ?_)
 refine sx 2 ?_
 refine RunL.op rfl rfl (OpJ.sub rfl rfl ?_)
 refine sx 2 ?_
 refine kq [4, 5] ?_
 refine Run.ret ?_
 exact ret_one (.tmp rfl (.tmp rfl .nil)) (by rw [signed_neg hs h2, signedN, signedE, if_pos h1, if_pos h1, if_neg h2, if_neg h2]; rfl) gv
 refine Run.skip ?_
 refine Run.seq ?_
 refine rg 2 [1, 15] ?_
 refine cnd rfl (fun h3 => ?_) fun h3 => ?_
 refine rg 2 [4, 5] ?_
 refine Run.ret ?_
 exact ret_one (.tmp rfl (.tmp rfl .nil)) (by rw [signedN, signedE, if_neg (show ¬ neg = true by simp [h1]), if_neg (show ¬ neg = true by simp [h1]), if_pos h3, if_pos h3]; rfl) gv
 refine Run.skip ?_
 refine rg 4 [4, 5] ?_
 refine Run.ret ?_
 exact ret_one (.tmp rfl (.tmp rfl .nil)) (by rw [signed_pos hs h3, signedN, signedE, if_neg (show ¬ neg = true by simp [h1]), if_neg (show ¬ neg = true by simp [h1]), if_neg h3, if_neg h3]; rfl) gv
theorem ac150 (a b : Int) (ha : u64 a) (hb : u64 b) : AC Tryz.prog 191 ⟨[U a, U b]⟩ (stars []) (Ret (.agg ⟨[U (a * b / 18446744073709551616), U (a * b % 18446744073709551616)]⟩) []) := by
 have ea1 := hi32 ha; have ea0 := lo32 a; have eb1 := hi32 hb; have eb0 := lo32 b
 have p11 := mul32 ea1 eb1; have p10 := mul32 ea1 eb0; have p01 := mul32 ea0 eb1; have p00 := mul32 ea0 eb0
 have hw := mul_words a b ha hb
 simp only at hw
 refine eo Tryz.func191 fun β => ?_
 refine sr ?_
 refine oal fun b4 => ?_
 refine kq [0, 1, 4] ?_
 refine sr ?_
 refine sx 1 ?_
 refine RunL.op rfl rfl (OpJ.shrU (k := 32) rfl rfl (by omega) ?_)
 refine sx 1 ?_
 refine RunL.op rfl rfl (OpJ.maskU rfl rfl (by omega) ?_)
 refine sx 2 ?_
 refine kq [1, 4, 5, 6] ?_
 refine sr ?_
 refine sx 1 ?_
 refine RunL.op rfl rfl (OpJ.shrU (k := 32) rfl rfl (by omega) ?_)
 refine sx 1 ?_
 refine RunL.op rfl rfl (OpJ.maskU rfl rfl (by omega) ?_)
 refine sx 2 ?_
 refine kq [4, 5, 6, 7, 8] ?_
 refine sr ?_
 refine sx 2 ?_
 refine RunL.op rfl rfl (OpJ.mulU rfl rfl (mul32u (by omega) (by omega)) ?_)
 refine sx 1 ?_
 refine kq [4, 5, 6, 7, 8, 9] ?_
 refine sr ?_
 refine sx 2 ?_
 refine RunL.op rfl rfl (OpJ.mulU rfl rfl (mul32u (by omega) (by omega)) ?_)
 refine sx 1 ?_
 refine RunL.op rfl rfl (OpJ.shrU (k := 32) rfl rfl (by omega) ?_)
 refine RunL.op rfl rfl (OpJ.addU rfl rfl (by omega) ?_)
 refine sx 1 ?_
 refine kq [4, 5, 6, 7, 9, 10] ?_
 refine sr ?_
 refine sx 2 ?_
 refine RunL.op rfl rfl (OpJ.mulU rfl rfl (mul32u (by omega) (by omega)) ?_)
 refine sx 1 ?_
 refine RunL.op rfl rfl (OpJ.maskU rfl rfl (by omega) ?_)
 refine RunL.op rfl rfl (OpJ.addU rfl rfl (by omega) ?_)
 refine sx 1 ?_
 refine kq [4, 5, 7, 9, 10, 11] ?_
 refine sr ?_
 refine sx 2 ?_
 refine RunL.op rfl rfl (OpJ.mulU rfl rfl (mul32u (by omega) (by omega)) ?_)
 refine sx 1 ?_
 refine RunL.op rfl rfl (OpJ.shrU (k := 32) rfl rfl (by omega) ?_)
 refine RunL.op rfl rfl (OpJ.addU rfl rfl (by omega) ?_)
 refine sx 1 ?_
 refine RunL.op rfl rfl (OpJ.shrU (k := 32) rfl rfl (by omega) ?_)
 refine RunL.op rfl rfl (OpJ.addU rfl rfl (by omega) ?_)
 refine sx 1 ?_
 refine RunL.op rfl rfl (OpJ.shl32 rfl rfl ?_)
 refine sx 1 ?_
 refine RunL.op rfl rfl (OpJ.maskU rfl rfl (by omega) ?_)
 refine RunL.op rfl rfl (OpJ.orShl rfl rfl (by omega) (by omega) ?_)
 refine sx 2 ?_
 refine kq [4] ?_
 exact .ret (ret_one (.cellA T135 rfl pk (by rfl) .nil) (words_ret hw (by omega)) .nil)
theorem ac156 (a b : Int) (ha : u64 a) (hb : u64 b) : AC Tryz.prog 197 ⟨[U a, U b]⟩ (stars []) (Ret (.tuple ⟨[U (a * b / 18446744073709551616), U (a * b % 18446744073709551616)]⟩) []) := by
 have ea1 := hi32 ha; have ea0 := lo32 a; have eb1 := hi32 hb; have eb0 := lo32 b
 have p11 := mul32 ea1 eb1; have p10 := mul32 ea1 eb0; have p01 := mul32 ea0 eb1; have p00 := mul32 ea0 eb0
 have hw := mul_words a b ha hb
 simp only at hw
 have hw2 := hw; rw [Int.add_comm (a % 4294967296 * (b / 2 ^ 32))] at hw2
 refine eo Tryz.func197 fun β => ?_
 refine rg 2 [0, 1] ?_
 refine sr ?_
 refine sx 1 ?_
 refine RunL.op rfl rfl (OpJ.maskU rfl rfl (by omega) ?_)
 refine sx 1 ?_
 refine kq [0, 1, 6] ?_
 refine sr ?_
 refine sx 1 ?_
 refine RunL.op rfl rfl (OpJ.shrU (k := 32) rfl rfl (by omega) ?_)
 refine sx 1 ?_
 refine kq [0, 1, 6, 7] ?_
 refine sr ?_
 refine sx 1 ?_
 refine RunL.op rfl rfl (OpJ.maskU rfl rfl (by omega) ?_)
 refine sx 1 ?_
 refine kq [0, 1, 6, 7, 8] ?_
 refine sr ?_
 refine sx 1 ?_
 refine RunL.op rfl rfl (OpJ.shrU (k := 32) rfl rfl (by omega) ?_)
 refine sx 1 ?_
 refine kq [0, 1, 6, 7, 8, 9] ?_
 refine sr ?_
 refine sx 2 ?_
 refine RunL.op rfl rfl (OpJ.mulU rfl rfl (mul32u (by omega) (by omega)) ?_)
 refine sx 1 ?_
 refine kq [0, 1, 6, 7, 8, 9, 10] ?_
 refine sr ?_
 refine sx 2 ?_
 refine RunL.op rfl rfl (OpJ.mulU rfl rfl (mul32u (by omega) (by omega)) ?_)
 refine sx 1 ?_
 refine RunL.op rfl rfl (OpJ.shrU (k := 32) rfl rfl (by omega) ?_)
 refine RunL.op rfl rfl (OpJ.addU rfl rfl (by omega) ?_)
 refine sx 1 ?_
 refine kq [0, 1, 6, 7, 9, 11] ?_
 refine sr ?_
 refine sx 1 ?_
 refine RunL.op rfl rfl (OpJ.maskU rfl rfl (by omega) ?_)
 refine sx 1 ?_
 refine kq [0, 1, 6, 7, 9, 11, 12] ?_
 refine sr ?_
 refine sx 1 ?_
 refine RunL.op rfl rfl (OpJ.shrU (k := 32) rfl rfl (by omega) ?_)
 refine sx 1 ?_
 refine kq [0, 1, 6, 7, 9, 12, 13] ?_
 refine sr ?_
 refine sx 3 ?_
 refine RunL.op rfl rfl (OpJ.mulU rfl rfl (mul32u (by omega) (by omega)) ?_)
 refine RunL.op rfl rfl (OpJ.addU rfl rfl (by omega) ?_)
 refine sx 1 ?_
 refine kq [0, 1, 7, 9, 12, 13] ?_
 refine sr ?_
 refine sx 2 ?_
 refine RunL.op rfl rfl (OpJ.mulU rfl rfl (mul32u (by omega) (by omega)) ?_)
 refine sx 1 ?_
 refine RunL.op rfl rfl (OpJ.addU rfl rfl (by omega) ?_)
 refine sx 1 ?_
 refine RunL.op rfl rfl (OpJ.shrU (k := 32) rfl rfl (by omega) ?_)
 refine RunL.op rfl rfl (OpJ.addU rfl rfl (by omega) ?_)
 refine sx 1 ?_
 refine kq [0, 1, 4] ?_
 refine rg 4 [4, 5] ?_
 exact .ret (ret_one (.tmp rfl (.tmp rfl .nil)) (words_ret2 hw2 (by omega)) .nil)
theorem ac152 (hi lo c : Int) (hhi : u64 hi) (hlo : u64 lo) (hc : 0 < c) (hcu : u64 c) : AC Tryz.prog 193 ⟨[.agg ⟨[U hi, U lo]⟩, U c]⟩ (stars []) (Ret (.tuple ⟨[.agg ⟨[U ((hi * 18446744073709551616 + lo) / c / 18446744073709551616), U ((hi * 18446744073709551616 + lo) / c % 18446744073709551616)]⟩, U ((hi * 18446744073709551616 + lo) % c)]⟩) []) := by
 refine eo Tryz.func193 fun β => ?_
 refine sr ?_
 refine obx rfl fun b2 => ?_
 refine oal fun b4 => ?_
 refine sx 1 ?_
 refine kq [1, 2, 4, 5] ?_
 refine Run.scope ?_
 refine Run.seq ?_
 refine Run.label ?_
 refine Run.seq ?_
 refine rg 2 [1, 4, 5, 10, 11] ?_
 refine Run.block ?_
 refine Run.weak (L' := [pt b4 (blk [U 0, U 0] 192)]) (fun _ _ h => h) gv ?_
 refine Run.loop (fun m E L => ∃ i : Nat, ∃ q0 q1 r : Int, m = 2 - i ∧ i ≤ 2 ∧ OI hi lo c i q0 q1 r ∧ E = [(1, U c), (4, .pointer (some ⟨b4, 0, none⟩)), (5, U r), (10, .agg ⟨[U hi, U lo]⟩), (11, I i)] ∧ L = [pt b4 (blk [U q0, U q1] 192)]) ⟨_, 0, 0, 0, 0, rfl, by omega, OI.zero, rfl, rfl⟩ ?_
 rintro _ _ _ ⟨i, q0, q1, r, rfl, hi2, hO, rfl, rfl⟩
 refine rg 1 [1, 4, 5, 10, 11, 12] ?_
 refine Run.seq ?_
 refine cnd rfl (fun h1 => ?_) fun h1 => ?_
 refine Run.skip ?_
 refine Run.seq ?_
 refine Run.block ?_
 refine sr ?_
 obtain ⟨w, hw64, hwv, hqi, hr0, hrc, hnext⟩ := OI.next hhi hlo hc hO (by omega)
 refine sx 1 ?_
 refine RunL.op rfl rfl (OpJ.indexArr A135 rfl rfl (by omega) hwv ?_)
 refine sx 2 ?_
 refine kq [1, 4, 5, 6, 7, 10, 11] ?_
 refine rg 1 [1, 4, 5, 6, 7, 8, 10, 11] ?_
 refine Run.block ?_
 rw [hqi]
 refine Run.loop (fun m E L => ∃ k : Nat, ∃ q s : Int, k = m ∧ DInv r w c k q s ∧ E = [(1, U c), (4, .pointer (some ⟨b4, 0, none⟩)), (5, U s), (6, I i), (7, U w), (8, I ((k : Int) - 1)), (10, .agg ⟨[U hi, U lo]⟩), (11, I i)] ∧ L = [pt b4 (blk ([U q0, U q1].set i (U q)) 192)]) ⟨_, 64, 0, r, rfl, DInv.start hr0 hrc hw64, rfl, rfl⟩ ?_
 rintro _ _ _ ⟨k, q, s, rfl, hD, rfl, rfl⟩
 refine Run.seq ?_
 refine rg 2 [1, 4, 5, 6, 7, 8, 10, 11, 16] ?_
 refine cnd rfl (fun h2 => ?_) fun h2 => ?_
 refine Run.skip ?_
 refine Run.seq ?_
 refine Run.block ?_
 refine Run.seq ?_
 refine sr ?_
 obtain ⟨j, rfl⟩ : ∃ j, k = j + 1 := ⟨k - 1, by omega⟩
 have hj := hD.k64; have hq64 := hD.q64; have hs0 := hD.r0; have hsc := hD.rc; have hqh := hD.half
 refine sx 3 ?_
 refine spl 21 rfl (fun g3 => ?_) fun g3 => ?_
 refine sx 3 ?_
 refine RunL.yes rfl rfl rfl rfl (OpJ.shlV (k := 64 - (j + 1)) rfl rfl (by omega) (by omega) ?_)
 refine sx 2 ?_
 refine kq [1, 4, 5, 6, 7, 8, 10, 11, 27] ?_
 refine cnd rfl (fun h4 => ?_) fun h4 => ?_
 refine sr ?_
 refine sx 2 ?_
 refine RunL.op rfl rfl (OpJ.loadF T133 rfl pk (getset (l := [U q0, U q1]) (show i < 2 by omega)) ?_)
 refine sx 2 ?_
 refine RunL.op rfl rfl (OpJ.shlV (k := j + 1) rfl rfl (by omega) (by omega) ?_)
 have hfin : DInv r w c 0 (q * 2 ^ (j + 1)) s := by have h := DInv.last (g3 ▸ hD) ((shl_zero hw64 hj).1 h4); rw [g3]; exact h
 refine RunL.set (congrArg U (Int.emod_eq_of_lt hfin.q64.1 hfin.q64.2)) ?_
 refine sx 1 ?_
 refine RunL.op rfl rfl (OpJ.store1 T133 rfl rfl rfl up (by simp; omega) ?_)
 simp only [Int.toNat_natCast, Nat.zero_add, List.set_set]
 refine kq [1, 4, 5, 10, 11] ?_
 refine Run.exit ?_
 refine Run.region ?_
 first | (have hfin0 := hfin) | (obtain rfl : k = 0 := (by omega); have hfin := hD)
 obtain ⟨q0', q1', hL, hO'⟩ := hnext _ _ hfin
 rw [hL]
 refine sx 2 ?_
 refine RunL.weak (L' := [pt b4 (blk [U q0', U q1'] 192)]) (Keep.sub (kt (ks := [1, 4, 5, 10, 11]) rfl)) gv (RunL.nil ?_)
 exact ⟨_, by omega, i + 1, q0', q1', _, rfl, by omega, hO', rfl, rfl⟩
 refine Run.skip ?_
 refine sr ?_
 refine sx 1 ?_
 refine RunL.op rfl rfl (OpJ.shrU (k := 63) rfl rfl (by omega) ?_)
 refine sx 1 ?_
 refine kq [1, 4, 5, 6, 7, 8, 9, 10, 11] ?_
 refine sr ?_
 refine sx 1 ?_
 refine RunL.op rfl rfl (OpJ.shl1 rfl rfl ?_)
 refine sx 2 ?_
 refine RunL.op rfl rfl (OpJ.shrV (k := j) rfl rfl (by omega) (by omega) ?_)
 refine RunL.op rfl rfl (OpJ.oneU rfl rfl (div_u64 hw64 j) ?_)
 refine RunL.op rfl rfl (OpJ.orBit (a := s % 9223372036854775808) rfl rfl (by omega) (by omega) (by constructor <;> omega) ?_)
 refine sx 1 ?_
 refine kq [1, 4, 5, 6, 7, 8, 9, 10, 11] ?_
 refine sr ?_
 refine sx 2 ?_
 refine RunL.op rfl rfl (OpJ.loadF T133 rfl pk (getset (l := [U q0, U q1]) (show i < 2 by omega)) ?_)
 refine RunL.op rfl rfl (OpJ.shl1 rfl rfl ?_)
 refine sx 1 ?_
 refine RunL.op rfl rfl (OpJ.store1 T133 rfl rfl rfl up (by simp; omega) ?_)
 simp only [Int.toNat_natCast, Nat.zero_add, List.set_set]
 refine kq [1, 4, 5, 6, 7, 8, 9, 10, 11] ?_
 refine sr ?_
 refine sx 3 ?_
 refine spl 51 rfl (fun g5 => ?_) fun g5 => ?_
 refine sx 4 ?_
 refine kq [1, 4, 5, 6, 7, 8, 10, 11, 55] ?_
 refine Run.true rfl ?_
 refine sr ?_
 refine sx 2 ?_
 refine RunL.op rfl rfl (OpJ.sub rfl rfl ?_)
 refine sx 1 ?_
 refine kq [1, 4, 5, 6, 7, 8, 10, 11] ?_
 refine Run.region ?_
 refine sx 2 ?_
 refine RunL.op rfl rfl (OpJ.loadF T133 rfl pk (getset (l := [U q0, U q1]) (show i < 2 by omega)) ?_)
 refine RunL.op rfl rfl (OpJ.orBit (a := q) rfl rfl (by omega) (by omega) (by omega) ?_)
 refine sx 1 ?_
 refine RunL.op rfl rfl (OpJ.store1 T133 rfl rfl rfl up (by simp; omega) ?_)
 simp only [Int.toNat_natCast, Nat.zero_add, List.set_set]
 refine kq [1, 4, 5, 6, 7, 8, 10, 11] ?_
 refine Run.region ?_
 have hb := lo32 0; have hbit : 0 ≤ w / 2 ^ j % 2 ∧ w / 2 ^ j % 2 ≤ 1 := by constructor <;> omega
 first | have hnew : DInv r w c j (q * 2 + 1) (IntKind.u64.wrap (s % 9223372036854775808 * 2 + w / 2 ^ j % 2 - c)) := (by have e := wrap_u64 (s % 9223372036854775808 * 2 + w / 2 ^ j % 2 - c); rw [e, show (s % 9223372036854775808 * 2 + w / 2 ^ j % 2 - c) % 18446744073709551616 = 2 * s + w / 2 ^ j % 2 - c by omega, Int.mul_comm q 2]; exact (hD.step hj).1 (by omega)) | have hnew : DInv r w c j (q * 2 % 18446744073709551616) (s % 9223372036854775808 * 2 + w / 2 ^ j % 2) := (by rw [show q * 2 % 18446744073709551616 = 2 * q by omega, show s % 9223372036854775808 * 2 + w / 2 ^ j % 2 = 2 * s + w / 2 ^ j % 2 by omega]; exact (hD.step hj).2 (by omega))
 refine sx 3 ?_
 refine RunL.set (congrArg I (show ((j + 1 : Nat) : Int) - 1 - 1 = (j : Int) - 1 by omega)) ?_
 refine RunL.weak (L' := [pt b4 (blk ([U q0, U q1].set i (U (q * 2 + 1))) 192)]) (Keep.sub (kt (ks := [1, 4, 5, 6, 7, 8, 10, 11]) rfl)) gv (RunL.nil ?_)
 exact ⟨_, by omega, j, _, _, rfl, hnew, rfl, rfl⟩
 refine sx 4 ?_
 refine kq [1, 4, 5, 6, 7, 8, 10, 11, 55] ?_
 refine cnd rfl (fun h6 => ?_) fun h6 => ?_
 refine sr ?_
 refine sx 2 ?_
 refine RunL.op rfl rfl (OpJ.sub rfl rfl ?_)
 refine sx 1 ?_
 refine kq [1, 4, 5, 6, 7, 8, 10, 11] ?_
 refine Run.region ?_
 refine sx 2 ?_
 refine RunL.op rfl rfl (OpJ.loadF T133 rfl pk (getset (l := [U q0, U q1]) (show i < 2 by omega)) ?_)
 refine RunL.op rfl rfl (OpJ.orBit (a := q) rfl rfl (by omega) (by omega) (by omega) ?_)
 refine sx 1 ?_
 refine RunL.op rfl rfl (OpJ.store1 T133 rfl rfl rfl up (by simp; omega) ?_)
 simp only [Int.toNat_natCast, Nat.zero_add, List.set_set]
 refine kq [1, 4, 5, 6, 7, 8, 10, 11] ?_
 refine Run.region ?_
 have hb := lo32 0; have hbit : 0 ≤ w / 2 ^ j % 2 ∧ w / 2 ^ j % 2 ≤ 1 := by constructor <;> omega
 first | have hnew : DInv r w c j (q * 2 + 1) (IntKind.u64.wrap (s % 9223372036854775808 * 2 + w / 2 ^ j % 2 - c)) := (by have e := wrap_u64 (s % 9223372036854775808 * 2 + w / 2 ^ j % 2 - c); rw [e, show (s % 9223372036854775808 * 2 + w / 2 ^ j % 2 - c) % 18446744073709551616 = 2 * s + w / 2 ^ j % 2 - c by omega, Int.mul_comm q 2]; exact (hD.step hj).1 (by omega)) | have hnew : DInv r w c j (q * 2 % 18446744073709551616) (s % 9223372036854775808 * 2 + w / 2 ^ j % 2) := (by rw [show q * 2 % 18446744073709551616 = 2 * q by omega, show s % 9223372036854775808 * 2 + w / 2 ^ j % 2 = 2 * s + w / 2 ^ j % 2 by omega]; exact (hD.step hj).2 (by omega))
 refine sx 3 ?_
 refine RunL.set (congrArg I (show ((j + 1 : Nat) : Int) - 1 - 1 = (j : Int) - 1 by omega)) ?_
 refine RunL.weak (L' := [pt b4 (blk ([U q0, U q1].set i (U (q * 2 + 1))) 192)]) (Keep.sub (kt (ks := [1, 4, 5, 6, 7, 8, 10, 11]) rfl)) gv (RunL.nil ?_)
 exact ⟨_, by omega, j, _, _, rfl, hnew, rfl, rfl⟩
 refine Run.skip ?_
 refine Run.region ?_
 have hb := lo32 0; have hbit : 0 ≤ w / 2 ^ j % 2 ∧ w / 2 ^ j % 2 ≤ 1 := by constructor <;> omega
 first | have hnew : DInv r w c j (q * 2 + 1) (IntKind.u64.wrap (s % 9223372036854775808 * 2 + w / 2 ^ j % 2 - c)) := (by have e := wrap_u64 (s % 9223372036854775808 * 2 + w / 2 ^ j % 2 - c); rw [e, show (s % 9223372036854775808 * 2 + w / 2 ^ j % 2 - c) % 18446744073709551616 = 2 * s + w / 2 ^ j % 2 - c by omega, Int.mul_comm q 2]; exact (hD.step hj).1 (by omega)) | have hnew : DInv r w c j (q * 2 % 18446744073709551616) (s % 9223372036854775808 * 2 + w / 2 ^ j % 2) := (by rw [show q * 2 % 18446744073709551616 = 2 * q by omega, show s % 9223372036854775808 * 2 + w / 2 ^ j % 2 = 2 * s + w / 2 ^ j % 2 by omega]; exact (hD.step hj).2 (by omega))
 refine sx 3 ?_
 refine RunL.set (congrArg I (show ((j + 1 : Nat) : Int) - 1 - 1 = (j : Int) - 1 by omega)) ?_
 refine RunL.weak (L' := [pt b4 (blk ([U q0, U q1].set i (U (q * 2 % 18446744073709551616))) 192)]) (Keep.sub (kt (ks := [1, 4, 5, 6, 7, 8, 10, 11]) rfl)) gv (RunL.nil ?_)
 exact ⟨_, by omega, j, _, _, rfl, hnew, rfl, rfl⟩
 refine sx 6 ?_
 refine kq [1, 4, 5, 6, 7, 8, 10, 11, 27] ?_
 refine Run.false rfl ?_
 refine Run.skip ?_
 refine sr ?_
 refine sx 1 ?_
 refine RunL.op rfl rfl (OpJ.shrU (k := 63) rfl rfl (by omega) ?_)
 refine sx 1 ?_
 refine kq [1, 4, 5, 6, 7, 8, 9, 10, 11] ?_
 refine sr ?_
 refine sx 1 ?_
 refine RunL.op rfl rfl (OpJ.shl1 rfl rfl ?_)
 refine sx 2 ?_
 refine RunL.op rfl rfl (OpJ.shrV (k := j) rfl rfl (by omega) (by omega) ?_)
 refine RunL.op rfl rfl (OpJ.oneU rfl rfl (div_u64 hw64 j) ?_)
 refine RunL.op rfl rfl (OpJ.orBit (a := s % 9223372036854775808) rfl rfl (by omega) (by omega) (by constructor <;> omega) ?_)
 refine sx 1 ?_
 refine kq [1, 4, 5, 6, 7, 8, 9, 10, 11] ?_
 refine sr ?_
 refine sx 2 ?_
 refine RunL.op rfl rfl (OpJ.loadF T133 rfl pk (getset (l := [U q0, U q1]) (show i < 2 by omega)) ?_)
 refine RunL.op rfl rfl (OpJ.shl1 rfl rfl ?_)
 refine sx 1 ?_
 refine RunL.op rfl rfl (OpJ.store1 T133 rfl rfl rfl up (by simp; omega) ?_)
 simp only [Int.toNat_natCast, Nat.zero_add, List.set_set]
 refine kq [1, 4, 5, 6, 7, 8, 9, 10, 11] ?_
 refine sr ?_
 refine sx 3 ?_
 refine spl 51 rfl (fun g7 => ?_) fun g7 => ?_
 refine sx 4 ?_
 refine kq [1, 4, 5, 6, 7, 8, 10, 11, 55] ?_
 refine Run.true rfl ?_
 refine sr ?_
 refine sx 2 ?_
 refine RunL.op rfl rfl (OpJ.sub rfl rfl ?_)
 refine sx 1 ?_
 refine kq [1, 4, 5, 6, 7, 8, 10, 11] ?_
 refine Run.region ?_
 refine sx 2 ?_
 refine RunL.op rfl rfl (OpJ.loadF T133 rfl pk (getset (l := [U q0, U q1]) (show i < 2 by omega)) ?_)
 refine RunL.op rfl rfl (OpJ.orBit (a := q) rfl rfl (by omega) (by omega) (by omega) ?_)
 refine sx 1 ?_
 refine RunL.op rfl rfl (OpJ.store1 T133 rfl rfl rfl up (by simp; omega) ?_)
 simp only [Int.toNat_natCast, Nat.zero_add, List.set_set]
 refine kq [1, 4, 5, 6, 7, 8, 10, 11] ?_
 refine Run.region ?_
 have hb := lo32 0; have hbit : 0 ≤ w / 2 ^ j % 2 ∧ w / 2 ^ j % 2 ≤ 1 := by constructor <;> omega
 first | have hnew : DInv r w c j (q * 2 + 1) (IntKind.u64.wrap (s % 9223372036854775808 * 2 + w / 2 ^ j % 2 - c)) := (by have e := wrap_u64 (s % 9223372036854775808 * 2 + w / 2 ^ j % 2 - c); rw [e, show (s % 9223372036854775808 * 2 + w / 2 ^ j % 2 - c) % 18446744073709551616 = 2 * s + w / 2 ^ j % 2 - c by omega, Int.mul_comm q 2]; exact (hD.step hj).1 (by omega)) | have hnew : DInv r w c j (q * 2 % 18446744073709551616) (s % 9223372036854775808 * 2 + w / 2 ^ j % 2) := (by rw [show q * 2 % 18446744073709551616 = 2 * q by omega, show s % 9223372036854775808 * 2 + w / 2 ^ j % 2 = 2 * s + w / 2 ^ j % 2 by omega]; exact (hD.step hj).2 (by omega))
 refine sx 3 ?_
 refine RunL.set (congrArg I (show ((j + 1 : Nat) : Int) - 1 - 1 = (j : Int) - 1 by omega)) ?_
 refine RunL.weak (L' := [pt b4 (blk ([U q0, U q1].set i (U (q * 2 + 1))) 192)]) (Keep.sub (kt (ks := [1, 4, 5, 6, 7, 8, 10, 11]) rfl)) gv (RunL.nil ?_)
 exact ⟨_, by omega, j, _, _, rfl, hnew, rfl, rfl⟩
 refine sx 4 ?_
 refine kq [1, 4, 5, 6, 7, 8, 10, 11, 55] ?_
 refine cnd rfl (fun h8 => ?_) fun h8 => ?_
 refine sr ?_
 refine sx 2 ?_
 refine RunL.op rfl rfl (OpJ.sub rfl rfl ?_)
 refine sx 1 ?_
 refine kq [1, 4, 5, 6, 7, 8, 10, 11] ?_
 refine Run.region ?_
 refine sx 2 ?_
 refine RunL.op rfl rfl (OpJ.loadF T133 rfl pk (getset (l := [U q0, U q1]) (show i < 2 by omega)) ?_)
 refine RunL.op rfl rfl (OpJ.orBit (a := q) rfl rfl (by omega) (by omega) (by omega) ?_)
 refine sx 1 ?_
 refine RunL.op rfl rfl (OpJ.store1 T133 rfl rfl rfl up (by simp; omega) ?_)
 simp only [Int.toNat_natCast, Nat.zero_add, List.set_set]
 refine kq [1, 4, 5, 6, 7, 8, 10, 11] ?_
 refine Run.region ?_
 have hb := lo32 0; have hbit : 0 ≤ w / 2 ^ j % 2 ∧ w / 2 ^ j % 2 ≤ 1 := by constructor <;> omega
 first | have hnew : DInv r w c j (q * 2 + 1) (IntKind.u64.wrap (s % 9223372036854775808 * 2 + w / 2 ^ j % 2 - c)) := (by have e := wrap_u64 (s % 9223372036854775808 * 2 + w / 2 ^ j % 2 - c); rw [e, show (s % 9223372036854775808 * 2 + w / 2 ^ j % 2 - c) % 18446744073709551616 = 2 * s + w / 2 ^ j % 2 - c by omega, Int.mul_comm q 2]; exact (hD.step hj).1 (by omega)) | have hnew : DInv r w c j (q * 2 % 18446744073709551616) (s % 9223372036854775808 * 2 + w / 2 ^ j % 2) := (by rw [show q * 2 % 18446744073709551616 = 2 * q by omega, show s % 9223372036854775808 * 2 + w / 2 ^ j % 2 = 2 * s + w / 2 ^ j % 2 by omega]; exact (hD.step hj).2 (by omega))
 refine sx 3 ?_
 refine RunL.set (congrArg I (show ((j + 1 : Nat) : Int) - 1 - 1 = (j : Int) - 1 by omega)) ?_
 refine RunL.weak (L' := [pt b4 (blk ([U q0, U q1].set i (U (q * 2 + 1))) 192)]) (Keep.sub (kt (ks := [1, 4, 5, 6, 7, 8, 10, 11]) rfl)) gv (RunL.nil ?_)
 exact ⟨_, by omega, j, _, _, rfl, hnew, rfl, rfl⟩
 refine Run.skip ?_
 refine Run.region ?_
 have hb := lo32 0; have hbit : 0 ≤ w / 2 ^ j % 2 ∧ w / 2 ^ j % 2 ≤ 1 := by constructor <;> omega
 first | have hnew : DInv r w c j (q * 2 + 1) (IntKind.u64.wrap (s % 9223372036854775808 * 2 + w / 2 ^ j % 2 - c)) := (by have e := wrap_u64 (s % 9223372036854775808 * 2 + w / 2 ^ j % 2 - c); rw [e, show (s % 9223372036854775808 * 2 + w / 2 ^ j % 2 - c) % 18446744073709551616 = 2 * s + w / 2 ^ j % 2 - c by omega, Int.mul_comm q 2]; exact (hD.step hj).1 (by omega)) | have hnew : DInv r w c j (q * 2 % 18446744073709551616) (s % 9223372036854775808 * 2 + w / 2 ^ j % 2) := (by rw [show q * 2 % 18446744073709551616 = 2 * q by omega, show s % 9223372036854775808 * 2 + w / 2 ^ j % 2 = 2 * s + w / 2 ^ j % 2 by omega]; exact (hD.step hj).2 (by omega))
 refine sx 3 ?_
 refine RunL.set (congrArg I (show ((j + 1 : Nat) : Int) - 1 - 1 = (j : Int) - 1 by omega)) ?_
 refine RunL.weak (L' := [pt b4 (blk ([U q0, U q1].set i (U (q * 2 % 18446744073709551616))) 192)]) (Keep.sub (kt (ks := [1, 4, 5, 6, 7, 8, 10, 11]) rfl)) gv (RunL.nil ?_)
 exact ⟨_, by omega, j, _, _, rfl, hnew, rfl, rfl⟩
 refine Run.exit ?_
 refine Run.region ?_
 first | (have hfin0 := hfin) | (obtain rfl : k = 0 := (by omega); have hfin := hD)
 obtain ⟨q0', q1', hL, hO'⟩ := hnext _ _ hfin
 rw [hL]
 refine sx 2 ?_
 refine RunL.weak (L' := [pt b4 (blk [U q0', U q1'] 192)]) (Keep.sub (kt (ks := [1, 4, 5, 10, 11]) rfl)) gv (RunL.nil ?_)
 exact ⟨_, by omega, i + 1, q0', q1', _, rfl, by omega, hO', rfl, rfl⟩
 refine Run.exit ?_
 refine rg 4 [4, 5] ?_
 refine Run.ret ?_
 obtain rfl : i = 2 := by omega
 exact ret_one (.cellA T135 rfl pk (by rfl) (.tmp rfl .nil)) (OI.ret hlo hc hO) gv
end
end Go.Proofs.YtcpghpifbgpkjaaGreatDoor

namespace Go.Proofs.YtcpghpifbgpkjaaGreatDoor
open Go Go.SL Go.Proofs
theorem HM : Tryz.prog.follows .mixedOrders = true := by kernel_rfl
theorem ac152m (m c : Int) (h0 : 0 ≤ m) (h1 : m < 340282366920938463463374607431768211456) (hc : 0 < c) (hcu : u64 c) : AC Tryz.prog 193 ⟨[.agg ⟨[U (m / 18446744073709551616), U (m % 18446744073709551616)]⟩, U c]⟩ (stars []) (Ret (.tuple ⟨[.agg ⟨[U (m / c / 18446744073709551616), U (m / c % 18446744073709551616)]⟩, U (m % c)]⟩) []) := by
  have h := ac152 (m / 18446744073709551616) (m % 18446744073709551616) c (by omega) (by omega) hc hcu
  rw [show m / 18446744073709551616 * 18446744073709551616 + m % 18446744073709551616 = m by omega] at h
  exact h
section
attribute [local irreducible] OpJ RunL Run RunD DetJ pt own star Rd RdS
theorem ac111 (a b c mode : Int) (ha : i64 a) (hb : i64 b) (hc : i64 c) : AC Tryz.prog 160 ⟨[I a, I b, I c, I mode]⟩ (stars []) (Ret (.tuple ⟨[I (mdN a b c mode), I (mdE a b c mode)]⟩) []) := by
 have ua := mag_u64 ha; have ub := mag_u64 hb; have uc := mag_u64 hc; have pl := prod_le ha hb; have pz := @prod_zero a b
 refine eo Tryz.func160 fun β => ?_
 refine rg 2 [0, 1, 2, 3] ?_
 refine Run.seq ?_
 refine sr ?_
 refine sx 3 ?_
 refine spl 17 rfl (fun g1 => ?_) fun g1 => ?_
 refine sx 3 ?_
 refine kq [0, 1, 2, 3, 20] ?_
 refine Run.true rfl ?_
 refine rg 2 [8, 9] ?_
 exact .ret (ret_one (.tmp rfl (.tmp rfl .nil)) (md_kind (by omega)) gv)
 refine sx 3 ?_
 refine kq [0, 1, 2, 3, 20] ?_
 refine cnd rfl (fun h2 => ?_) fun h2 => ?_
 refine rg 2 [8, 9] ?_
 exact .ret (ret_one (.tmp rfl (.tmp rfl .nil)) (md_kind (by omega)) gv)
 refine Run.skip ?_
 refine Run.seq ?_
 refine rg 2 [0, 1, 2, 3, 22] ?_
 refine cnd rfl (fun h3 => ?_) fun h3 => ?_
 refine rg 2 [8, 9] ?_
 exact .ret (ret_one (.tmp rfl (.tmp rfl .nil)) (md_zero (by omega) (by omega)) gv)
 refine Run.skip ?_
 refine sr ?_
 have cpos := mag_pos h3; have q0 := quo_le pl.1 cpos; have r0 := rem_lt (m := mag a * mag b) cpos
 refine sx 1 ?_
 refine RunL.call C151 rfl rfl rfl (ac151 _ (by omega)) .nil ?_
 refine sx 1 ?_
 refine RunL.call C151 rfl rfl rfl (ac151 _ (by omega)) .nil ?_
 refine RunL.call C150 rfl rfl rfl (ac150 _ _ (by omega) (by omega)) .nil ?_
 refine oal fun b10 => ?_
 refine sx 1 ?_
 refine kq [0, 1, 2, 3, 10] ?_
 refine sr ?_
 refine RunL.cut (t := 11) (v := Bo (negB a b c)) (kt (ks := [2, 3, 10]) rfl) ?_ ?_
 refine sx 4 ?_
 refine spl 31 rfl (fun g4 => ?_) fun g4 => ?_
 refine sx 10 ?_
 exact RunL.nil ⟨.cons (by first | rfl | (show some (Value.bool _) = some (Value.bool _); exact congrArg some (congrArg Value.bool (negB_no (a := a) (b := b) (c := c) pl.1 g4))) | (show some (Value.bool _) = some (Value.bool _); exact congrArg some (congrArg Value.bool (negB_yes (a := a) (b := b) (c := c) pl.1 g4))) | (show some (Value.bool _) = some (Value.bool _); simp_all)) (kt (ks := [2, 3, 10]) rfl), rfl⟩
 refine sx 10 ?_
 exact RunL.nil ⟨.cons (by first | rfl | (show some (Value.bool _) = some (Value.bool _); exact congrArg some (congrArg Value.bool (negB_no (a := a) (b := b) (c := c) pl.1 g4))) | (show some (Value.bool _) = some (Value.bool _); exact congrArg some (congrArg Value.bool (negB_yes (a := a) (b := b) (c := c) pl.1 g4))) | (show some (Value.bool _) = some (Value.bool _); simp_all)) (kt (ks := [2, 3, 10]) rfl), rfl⟩
 refine Run.seq ?_
 refine regionD HM ?_
 refine RunD.mono (K' := fun E' L' => ∃ b12 : Nat, E' = [(2, I c), (3, I mode), (11, Bo (negB a b c)), (12, .pointer (some ⟨b12, 0, none⟩)), (13, U (mag a * mag b % mag c))] ∧ L' = [pt b12 (blk [U (mag a * mag b / mag c / 18446744073709551616), U (mag a * mag b / mag c % 18446744073709551616)] 192)]) ?_ ?_
 first | refine RunD.takeW 0 rfl rfl kr T135 rfl pk (by rfl) ?_ | refine RunD.takeP 0 rfl rfl kr T135 rfl pk (by simp) ?_ | refine RunD.takeE 0 rfl rfl kr T135 rfl pk (by assumption) (by exact fun _ => rfl) rfl (by decide) ?_
 refine tk 1 rfl rfl rfl (DetJ.move rfl) ?_
 refine RunD.two 2 7 [false, true] [true, true] rfl rfl rfl rfl rfl rfl kr kr kr (OpJ.callRet C151 rfl rfl (ac151 _ (by omega)) .nil ⟨po, ?_⟩) (OpJ.alloc Z135 fun b12 => ⟨po, ?_⟩)
 refine RunD.two 3 7 [false] [true] rfl rfl rfl rfl rfl rfl kr kr kr (OpJ.callRet C152 rfl rfl (ac152m _ _ (by omega) (by omega) (by omega) (by omega)) .nil ⟨po, ?_⟩) (OpJ.alloc Z135 fun b12 => ⟨po, ?_⟩)
 refine tk 4 rfl rfl rfl (DetJ.move rfl) ?_
 refine tk 5 rfl rfl rfl (DetJ.extract rfl rfl) ?_
 refine tk 6 rfl rfl rfl (DetJ.extract rfl rfl) ?_
 refine RunD.op 7 [true, true, true] rfl rfl rfl kr kr (OpJ.alloc Z135 fun b12 => ⟨po, ?_⟩)
 refine dsw 8 [true, false, false] ?_
 refine tk 9 rfl rfl rfl (DetJ.assign rfl) ?_
 exact dwk ⟨_, rfl, rfl⟩ rfl gv
 refine RunD.op 3 [false] rfl rfl rfl kr kr (OpJ.callRet C152 rfl rfl (ac152m _ _ (by omega) (by omega) (by omega) (by omega)) .nil ⟨po, ?_⟩)
 refine tk 4 rfl rfl rfl (DetJ.move rfl) ?_
 refine tk 5 rfl rfl rfl (DetJ.extract rfl rfl) ?_
 refine tk 6 rfl rfl rfl (DetJ.extract rfl rfl) ?_
 refine dsw 8 [true, false, false] ?_
 refine tk 9 rfl rfl rfl (DetJ.assign rfl) ?_
 exact dwk ⟨_, rfl, rfl⟩ rfl gv
 refine RunD.op 2 [false, true] rfl rfl rfl kr kr (OpJ.callRet C151 rfl rfl (ac151 _ (by omega)) .nil ⟨po, ?_⟩)
 refine RunD.op 3 [false] rfl rfl rfl kr kr (OpJ.callRet C152 rfl rfl (ac152m _ _ (by omega) (by omega) (by omega) (by omega)) .nil ⟨po, ?_⟩)
 refine tk 4 rfl rfl rfl (DetJ.move rfl) ?_
 refine tk 5 rfl rfl rfl (DetJ.extract rfl rfl) ?_
 refine tk 6 rfl rfl rfl (DetJ.extract rfl rfl) ?_
 refine dsw 8 [true, false, false] ?_
 refine tk 9 rfl rfl rfl (DetJ.assign rfl) ?_
 exact dwk ⟨_, rfl, rfl⟩ rfl gv
 rintro _ _ ⟨b12, rfl, rfl⟩
 refine Run.seq ?_
 refine rg 3 [2, 3, 11, 12, 13, 50] ?_
 refine cnd rfl (fun h5 => ?_) fun h5 => ?_
 refine rg 2 [8, 9] ?_
 refine Run.ret ?_
 exact ret_one (.tmp rfl (.tmp rfl .nil)) (md_over (by omega) (by omega) (by have := @md_size_ge a b c mode; omega)) gv
 refine Run.skip ?_
 refine sr ?_
 refine sx 2 ?_
 refine RunL.set (congrArg U (show _ = mag a * mag b / mag c by omega)) ?_
 refine sx 1 ?_
 refine kq [2, 3, 11, 13, 14] ?_
 refine Run.seq ?_
 refine sr ?_
 refine sx 4 ?_
 refine RunL.set (congrArg U (show _ = mag a * mag b / mag c % 2 by rw [Int.tmod_eq_emod_of_nonneg (by omega)])) ?_
 refine sx 3 ?_
 refine RunL.call C151 rfl rfl rfl (ac151 _ (by omega)) .nil ?_
 refine RunL.call C153 rfl rfl rfl (ac153 _ _ _ _ _ (by omega) (by omega) (by omega)) .nil ?_
 refine kq [11, 14, 61] ?_
 refine cnd rfl (fun h6 => ?_) fun h6 => ?_
 refine sr ?_
 refine sx 1 ?_
 refine RunL.op rfl rfl (OpJ.add rfl rfl ?_)
 refine RunL.set (congrArg U (wrap_u64 _)) ?_
 refine sx 1 ?_
 refine kq [11, 14] ?_
 refine rg 2 [11, 14, 65] ?_
 refine cnd rfl (fun h7 => ?_) fun h7 => ?_
 refine rg 2 [8, 9] ?_
 refine Run.ret ?_
 exact ret_one (.tmp rfl (.tmp rfl .nil)) (md_over (by omega) (by omega) (by rw [mdSize, if_pos h6]; omega)) gv
 refine Run.skip ?_
 refine sr ?_
 refine sx 2 ?_
 refine RunL.call C154 rfl rfl rfl (ac154 _ _ (by omega)) .nil ?_
 refine sx 4 ?_
 refine kq [8, 9] ?_
 refine Run.ret ?_
 exact ret_one (.tmp rfl (.tmp rfl .nil)) (md_main (by omega) (by omega) rfl rfl (by rw [mdSize, if_pos h6]; omega)) gv
 refine Run.skip ?_
 refine sr ?_
 refine sx 2 ?_
 refine RunL.call C154 rfl rfl rfl (ac154 _ _ (by omega)) .nil ?_
 refine sx 4 ?_
 refine kq [8, 9] ?_
 refine Run.ret ?_
 exact ret_one (.tmp rfl (.tmp rfl .nil)) (md_main (by omega) (by omega) rfl rfl (by rw [mdSize, if_neg (by simp [h6])]; omega)) gv
theorem ac60 (n lo hi : Int) : AC Tryz.prog 66 ⟨[I n, I lo, I hi]⟩ (stars []) (Ret (.bool (inB n lo hi)) []) := by
 refine eo Tryz.func66 fun β => ?_
 refine rg 1 [0, 1, 2] ?_
 refine sr ?_
 refine sx 4 ?_
 refine spl 10 rfl (fun g1 => ?_) fun g1 => ?_
 refine sx 5 ?_
 refine kq [6] ?_
 exact .ret (ret_one (.tmp rfl .nil) t0 .nil)
 refine sx 5 ?_
 refine kq [6] ?_
 exact .ret (ret_one (.tmp rfl .nil) t0 .nil)
theorem ac61 (m : Mv) : AC Tryz.prog 67 ⟨[.agg ⟨m.c⟩]⟩ (stars []) (Ret (.bool m.quantityOk) []) := by
 refine eo Tryz.func67 fun β => ?_
 refine sr ?_
 refine obx rfl fun b1 => ?_
 refine sx 1 ?_
 refine kq [1] ?_
 refine Run.seq ?_
 refine sr ?_
 refine sx 4 ?_
 refine spl 6 rfl (fun g1 => ?_) fun g1 => ?_
 refine sx 4 ?_
 refine kq [1, 10] ?_
 refine Run.true rfl ?_
 refine rg 4 [2] ?_
 exact .ret (ret_one (.tmp rfl .nil) t0 .nil)
 refine sx 4 ?_
 refine kq [1, 10] ?_
 refine cnd rfl (fun h2 => ?_) fun h2 => ?_
 refine rg 4 [2] ?_
 exact .ret (ret_one (.tmp rfl .nil) t0 .nil)
 refine Run.skip ?_
 refine sr ?_
 refine sx 2 ?_
 refine RunL.call C60 rfl rfl rfl (ac60 _ _ _) .nil ?_
 refine sx 1 ?_
 refine kq [2] ?_
 exact .ret (ret_one (.tmp rfl .nil) t0 .nil)
theorem ac62 (m : Mv) : AC Tryz.prog 68 ⟨[.agg ⟨m.c⟩]⟩ (stars []) (Ret (.bool m.costOk) []) := by
 refine eo Tryz.func68 fun β => ?_
 refine sr ?_
 refine obx rfl fun b1 => ?_
 refine sx 1 ?_
 refine kq [1] ?_
 refine Run.seq ?_
 refine rg 2 [1, 4] ?_
 refine Run.block ?_
 refine Run.seq ?_
 refine rg 2 [1, 4, 5] ?_
 refine cnd rfl (fun h1 => ?_) fun h1 => ?_
 refine Run.skip ?_
 refine cnd rfl (fun h2 => ?_) fun h2 => ?_
 refine rg 4 [2] ?_
 exact .ret (ret_one (.tmp rfl .nil) t0 .nil)
 refine rg 2 [1, 11] ?_
 refine cnd rfl (fun h3 => ?_) fun h3 => ?_
 refine sr ?_
 refine sx 2 ?_
 refine RunL.call C60 rfl rfl rfl (ac60 _ _ _) .nil ?_
 refine sx 1 ?_
 refine kq [2] ?_
 exact .ret (ret_one (.tmp rfl .nil) t0 .nil)
 refine Run.skip ?_
 refine sr ?_
 refine sx 2 ?_
 refine RunL.call C60 rfl rfl rfl (ac60 _ _ _) .nil ?_
 refine sx 1 ?_
 refine kq [2] ?_
 exact .ret (ret_one (.tmp rfl .nil) t0 .nil)
 refine Run.region ?_
 refine sx 2 ?_
 refine kq [1, 4, 5] ?_
 refine cnd rfl (fun h4 => ?_) fun h4 => ?_
 refine rg 4 [2] ?_
 exact .ret (ret_one (.tmp rfl .nil) t0 .nil)
 refine rg 2 [1, 11] ?_
 refine cnd rfl (fun h5 => ?_) fun h5 => ?_
 refine sr ?_
 refine sx 2 ?_
 refine RunL.call C60 rfl rfl rfl (ac60 _ _ _) .nil ?_
 refine sx 1 ?_
 refine kq [2] ?_
 exact .ret (ret_one (.tmp rfl .nil) t0 .nil)
 refine Run.skip ?_
 refine sr ?_
 refine sx 2 ?_
 refine RunL.call C60 rfl rfl rfl (ac60 _ _ _) .nil ?_
 refine sx 1 ?_
 refine kq [2] ?_
 exact .ret (ret_one (.tmp rfl .nil) t0 .nil)
theorem ac64 (k : Int) : AC Tryz.prog 51 ⟨[I k]⟩ (stars []) (Ret (.bool (refersB k)) []) := by
 refine eo Tryz.func51 fun β => ?_
 refine rg 1 [0] ?_
 refine sr ?_
 refine sx 3 ?_
 refine spl 5 rfl (fun g1 => ?_) fun g1 => ?_
 refine sx 8 ?_
 refine kq [2] ?_
 exact .ret (ret_one (.tmp rfl .nil) t0 .nil)
 refine sx 4 ?_
 refine spl 9 rfl (fun g2 => ?_) fun g2 => ?_
 refine sx 4 ?_
 refine kq [2] ?_
 exact .ret (ret_one (.tmp rfl .nil) t0 .nil)
 refine sx 4 ?_
 refine kq [2] ?_
 exact .ret (ret_one (.tmp rfl .nil) t0 .nil)
theorem ac112 (n lo hi : Int) : AC Tryz.prog 161 ⟨[I n, I lo, I hi]⟩ (stars []) (Ret (I (near n lo hi)) []) := by
 refine eo Tryz.func161 fun β => ?_
 refine rg 1 [0, 1, 2] ?_
 refine Run.seq ?_
 refine Run.block ?_
 refine rg 4 [0, 1, 2, 7] ?_
 refine cnd rfl (fun h1 => ?_) fun h1 => ?_
 refine rg 2 [6] ?_
 exact .ret (ret_one (.tmp rfl .nil) t0 .nil)
 refine rg 4 [0, 2, 12] ?_
 refine cnd rfl (fun h2 => ?_) fun h2 => ?_
 refine rg 2 [6] ?_
 exact .ret (ret_one (.tmp rfl .nil) t0 .nil)
 refine Run.skip ?_
 refine rg 2 [6] ?_
 exact .ret (ret_one (.tmp rfl .nil) t0 .nil)
theorem ac70 (n : Int) : AC Tryz.prog 125 ⟨[I n]⟩ (stars []) (Ret (.bool (farB n)) []) := by
 refine eo Tryz.func125 fun β => ?_
 refine rg 1 [0] ?_
 refine sr ?_
 refine sx 1 ?_
 refine RunL.call C112 rfl rfl rfl (ac112 _ _ _) .nil ?_
 refine sx 3 ?_
 refine kq [2] ?_
 exact .ret (ret_one (.tmp rfl .nil) t0 .nil)
theorem ac90 (n : Int) : AC Tryz.prog 144 ⟨[I n]⟩ (stars []) (Ret (.bool (farB n)) []) := by
 refine eo Tryz.func144 fun β => ?_
 refine rg 1 [0] ?_
 refine sr ?_
 refine sx 1 ?_
 refine RunL.call C112 rfl rfl rfl (ac112 _ _ _) .nil ?_
 refine sx 3 ?_
 refine kq [2] ?_
 exact .ret (ret_one (.tmp rfl .nil) t0 .nil)
theorem ac43 (n : Int) : AC Tryz.prog 100 ⟨[I n]⟩ (stars []) (Ret (.bool (largeB n)) []) := by
 refine eo Tryz.func100 fun β => ?_
 refine rg 1 [0] ?_
 refine sr ?_
 refine sx 3 ?_
 refine spl 5 rfl (fun g1 => ?_) fun g1 => ?_
 refine sx 4 ?_
 refine kq [2] ?_
 exact .ret (ret_one (.tmp rfl .nil) t0 .nil)
 refine sx 4 ?_
 refine kq [2] ?_
 exact .ret (ret_one (.tmp rfl .nil) t0 .nil)
theorem ac48 (n : Int) : AC Tryz.prog 105 ⟨[I n]⟩ (stars []) (Ret (.bool (withinB n)) []) := by
 refine eo Tryz.func105 fun β => ?_
 refine rg 1 [0] ?_
 refine sr ?_
 refine sx 3 ?_
 refine spl 5 rfl (fun g1 => ?_) fun g1 => ?_
 refine sx 4 ?_
 refine kq [2] ?_
 exact .ret (ret_one (.tmp rfl .nil) t0 .nil)
 refine sx 4 ?_
 refine kq [2] ?_
 exact .ret (ret_one (.tmp rfl .nil) t0 .nil)
theorem ac108 (c : Int) : AC Tryz.prog 84 ⟨[.int .u8 c]⟩ (stars []) (Ret (.bool (letterB c)) []) := by
 refine eo Tryz.func84 fun β => ?_
 refine rg 1 [0] ?_
 refine sr ?_
 refine sx 3 ?_
 refine spl 5 rfl (fun g1 => ?_) fun g1 => ?_
 refine sx 4 ?_
 refine spl 9 rfl (fun g2 => ?_) fun g2 => ?_
 refine sx 12 ?_
 refine kq [2] ?_
 exact .ret (ret_one (.tmp rfl .nil) t0 .nil)
 refine sx 3 ?_
 refine spl 12 rfl (fun g3 => ?_) fun g3 => ?_
 refine sx 5 ?_
 refine spl 17 rfl (fun g4 => ?_) fun g4 => ?_
 refine sx 4 ?_
 refine kq [2] ?_
 exact .ret (ret_one (.tmp rfl .nil) t0 .nil)
 refine sx 4 ?_
 refine kq [2] ?_
 exact .ret (ret_one (.tmp rfl .nil) t0 .nil)
 refine sx 9 ?_
 refine kq [2] ?_
 exact .ret (ret_one (.tmp rfl .nil) t0 .nil)
 refine sx 7 ?_
 refine spl 12 rfl (fun g5 => ?_) fun g5 => ?_
 refine sx 5 ?_
 refine spl 17 rfl (fun g6 => ?_) fun g6 => ?_
 refine sx 4 ?_
 refine kq [2] ?_
 exact .ret (ret_one (.tmp rfl .nil) t0 .nil)
 refine sx 4 ?_
 refine kq [2] ?_
 exact .ret (ret_one (.tmp rfl .nil) t0 .nil)
 refine sx 9 ?_
 refine kq [2] ?_
 exact .ret (ret_one (.tmp rfl .nil) t0 .nil)
theorem ac109 (c : Int) : AC Tryz.prog 85 ⟨[.int .u8 c]⟩ (stars []) (Ret (.bool (digitB c)) []) := by
 refine eo Tryz.func85 fun β => ?_
 refine rg 1 [0] ?_
 refine sr ?_
 refine sx 3 ?_
 refine spl 5 rfl (fun g1 => ?_) fun g1 => ?_
 refine sx 4 ?_
 refine kq [2] ?_
 exact .ret (ret_one (.tmp rfl .nil) t0 .nil)
 refine sx 4 ?_
 refine kq [2] ?_
 exact .ret (ret_one (.tmp rfl .nil) t0 .nil)
theorem ac107 (c : Int) : AC Tryz.prog 83 ⟨[.int .u8 c]⟩ (stars []) (Ret (.bool (letterB c || digitB c)) []) := by
 refine eo Tryz.func83 fun β => ?_
 refine rg 1 [0] ?_
 refine sr ?_
 refine sx 1 ?_
 refine RunL.call C108 rfl rfl rfl (ac108 _) .nil ?_
 refine sx 1 ?_
 refine spl 5 rfl (fun g1 => ?_) fun g1 => ?_
 refine sx 4 ?_
 refine kq [2] ?_
 exact .ret (ret_one (.tmp rfl .nil) t0 .nil)
 refine sx 1 ?_
 refine RunL.callG C109 rfl rfl rfl rfl rfl (ac109 _) .nil ?_
 refine sx 2 ?_
 refine kq [2] ?_
 exact .ret (ret_one (.tmp rfl .nil) t0 .nil)
theorem ac175 (y : Int) : AC Tryz.prog 158 ⟨[I y]⟩ (stars []) (Ret (Bo (leapB y)) []) := by
 refine eo Tryz.func158 fun β => ?_
 refine rg 1 [0] ?_
 refine sr ?_
 refine sx 4 ?_
 refine spl 6 rfl (fun g1 => ?_) fun g1 => ?_
 refine sx 5 ?_
 refine spl 11 rfl (fun g2 => ?_) fun g2 => ?_
 refine sx 5 ?_
 refine kq [2] ?_
 exact .ret (ret_one (.tmp rfl .nil) t0 .nil)
 refine sx 5 ?_
 refine kq [2] ?_
 exact .ret (ret_one (.tmp rfl .nil) t0 .nil)
 refine sx 10 ?_
 refine kq [2] ?_
 exact .ret (ret_one (.tmp rfl .nil) t0 .nil)
theorem ac149 (y m : Int) (R0 : HP) (hR0 : Rd R0 ⟨0, 0, none⟩ lensC) : AC Tryz.prog 119 ⟨[I y, I m]⟩ (stars [R0]) (Ret (I (lenM (leapB y) m)) [R0]) := by
 refine eo Tryz.func119 fun β => ?_
 refine rg 1 [0, 1] ?_
 refine Run.seq ?_
 refine Run.block ?_
 refine sr ?_
 refine sx 3 ?_
 refine spl 8 rfl (fun g1 => ?_) fun g1 => ?_
 refine sx 4 ?_
 refine kq [0, 1, 5] ?_
 refine Run.true rfl ?_
 refine rg 1 [4] ?_
 refine Run.ret ?_
 exact ret_one (.tmp rfl .nil) (congrArg I (show _ = _ by rw [lenM]; simp [*]; try omega)) gv
 refine sx 4 ?_
 refine kq [0, 1, 5] ?_
 refine cnd rfl (fun h2 => ?_) fun h2 => ?_
 refine rg 1 [4] ?_
 refine Run.ret ?_
 exact ret_one (.tmp rfl .nil) (congrArg I (show _ = _ by rw [lenM]; simp [*]; try omega)) gv
 refine sr ?_
 refine sx 3 ?_
 refine spl 15 rfl (fun g3 => ?_) fun g3 => ?_
 refine sx 1 ?_
 refine RunL.callG C175 rfl rfl rfl rfl rfl (ac175 _) .nil ?_
 refine sx 2 ?_
 refine kq [1, 12] ?_
 refine cnd rfl (fun h4 => ?_) fun h4 => ?_
 refine rg 1 [4] ?_
 refine Run.ret ?_
 exact ret_one (.tmp rfl .nil) (congrArg I (show _ = _ by rw [lenM]; simp [*]; try omega)) gv
 refine Run.skip ?_
 refine sr ?_
 refine sx 3 ?_
 refine RunL.op rfl rfl (OpJ.load1 T3 rfl pk (hR0.fld (lens_get (m := m) (by omega) (by omega))) ?_)
 refine sx 1 ?_
 refine kq [4] ?_
 refine Run.ret ?_
 exact ret_one (.tmp rfl .nil) (congrArg I (show _ = _ by rw [lenM]; simp [*]; try omega)) gv
 refine sx 4 ?_
 refine kq [1, 12] ?_
 refine Run.false rfl ?_
 refine Run.skip ?_
 refine sr ?_
 refine sx 3 ?_
 refine RunL.op rfl rfl (OpJ.load1 T3 rfl pk (hR0.fld (lens_get (m := m) (by omega) (by omega))) ?_)
 refine sx 1 ?_
 refine kq [4] ?_
 refine Run.ret ?_
 exact ret_one (.tmp rfl .nil) (congrArg I (show _ = _ by rw [lenM]; simp [*]; try omega)) gv
theorem ac148 (y : Int) (h1 : 1900 ≤ y) (h2 : y ≤ 2200) : AC Tryz.prog 118 ⟨[I y]⟩ (stars []) (Ret (I (beforeF y)) []) := by
 refine eo Tryz.func118 fun β => ?_
 refine rg 1 [0] ?_
 refine sr ?_
 refine sx 1 ?_
 refine RunL.op rfl rfl (OpJ.sub rfl rfl ?_)
 refine sx 1 ?_
 refine kq [0, 3] ?_
 refine sr ?_
 refine sx 4 ?_
 refine RunL.op rfl rfl (OpJ.sub rfl rfl ?_)
 refine sx 2 ?_
 refine RunL.op rfl rfl (OpJ.add rfl rfl ?_)
 refine RunL.op rfl rfl (OpJ.sub rfl rfl ?_)
 refine RunL.op rfl rfl (OpJ.add rfl rfl ?_)
 refine RunL.op rfl rfl (OpJ.sub rfl rfl ?_)
 refine sx 1 ?_
 refine kq [0, 4] ?_
 refine sr ?_
 refine sx 1 ?_
 refine RunL.op rfl rfl (OpJ.sub rfl rfl ?_)
 refine sx 2 ?_
 refine RunL.op rfl rfl (OpJ.add rfl rfl ?_)
 refine sx 1 ?_
 refine kq [2] ?_
 exact .ret (ret_one (.tmp rfl .nil) (congrArg I (before_code h1 h2)) gv)
theorem ac147 (n : Int) : AC Tryz.prog 117 ⟨[I n]⟩ (stars []) (Ret (Bo (inB n 0 109572)) []) := by
 refine eo Tryz.func117 fun β => ?_
 refine rg 1 [0] ?_
 refine sr ?_
 refine sx 3 ?_
 refine spl 5 rfl (fun g1 => ?_) fun g1 => ?_
 refine sx 4 ?_
 refine kq [2] ?_
 exact .ret (ret_one (.tmp rfl .nil) t0 .nil)
 refine sx 4 ?_
 refine kq [2] ?_
 exact .ret (ret_one (.tmp rfl .nil) t0 .nil)
theorem ac105 (n : Int) (R0 : HP) (hR0 : Rd R0 ⟨0, 0, none⟩ lensC) : AC Tryz.prog 81 ⟨[I n]⟩ (stars [R0]) (Outs (fun _ : Int × Int × Int => True) (fun x => .tuple ⟨[.agg ⟨[I x.1, I x.2.1, I x.2.2]⟩, I (if inB n 0 109572 = true then 0 else 11)]⟩) (fun _ => [R0])) := by
 refine eo Tryz.func81 fun β => ?_
 refine sr ?_
 refine oal fun b2 => ?_
 refine sx 1 ?_
 refine kq [0, 2] ?_
 refine Run.seq ?_
 refine sr ?_
 refine sx 1 ?_
 refine RunL.call C147 rfl rfl rfl (ac147 _) .nil ?_
 refine RunL.op rfl rfl (OpJ.not rfl ?_)
 refine kq [0, 2, 6] ?_
 refine cnd rfl (fun h1 => ?_) fun h1 => ?_
 refine rg 3 [2, 3] ?_
 refine Run.ret ?_
 exact ret_out (0, 0, 0) (.cellA T115 rfl pk (by rfl) (.tmp rfl .nil)) trivial (by rw [if_neg (by simpa using h1)]; rfl) gv
 refine Run.skip ?_
 refine sr ?_
 have hn := inB_iff.1 (show inB n 0 109572 = true by simpa using h1)
 have hfst := before_first hn.1 hn.2
 refine sx 2 ?_
 refine RunL.set (congrArg I (show _ = n / 366 by rw [Int.tdiv_eq_ediv_of_nonneg (by omega)]; exact wrap_i64_in ⟨by omega, by omega⟩)) ?_
 refine sx 3 ?_
 refine kq [0, 2] ?_
 refine Run.seq ?_
 refine Run.block ?_
 refine Run.loop (fun m E L => ∃ y : Int, m = (2199 - y).toNat ∧ 1900 ≤ y ∧ y ≤ 2199 ∧ beforeF y ≤ n ∧ E = [(0, I n), (2, .pointer (some ⟨b2, 0, none⟩))] ∧ L = [pt b2 (blk [I y, I 0, I 0] 133), R0]) ⟨_, 1900 + n / 366, rfl, hfst.1, hfst.2.1, hfst.2.2, rfl, rfl⟩ ?_
 rintro _ _ _ ⟨y, rfl, hy1, hy2, hyn, rfl, rfl⟩
 refine Run.seq ?_
 refine sr ?_
 refine RunL.cut (t := 22) (v := Bo (decide (y < 2199 ∧ beforeF (y + 1) ≤ n))) (kt (ks := [0, 2]) rfl) ?_ ?_
 refine sx 4 ?_
 refine spl 15 rfl (fun g2 => ?_) fun g2 => ?_
 refine sx 3 ?_
 refine RunL.callG C148 rfl rfl rfl rfl rfl (ac148 _ (by omega) (by omega)) .nil ?_
 refine sx 3 ?_
 exact RunL.nil ⟨.cons (by first | rfl | (show some (Value.bool _) = some (Value.bool _); rw [decide_eq_false (show ¬ (y < 2199 ∧ beforeF (y + 1) ≤ n) by omega)]) | (show some (Value.bool _) = some (Value.bool _); simp_all)) (kt (ks := [0, 2]) rfl), rfl⟩
 refine sx 7 ?_
 exact RunL.nil ⟨.cons (by first | rfl | (show some (Value.bool _) = some (Value.bool _); rw [decide_eq_false (show ¬ (y < 2199 ∧ beforeF (y + 1) ≤ n) by omega)]) | (show some (Value.bool _) = some (Value.bool _); simp_all)) (kt (ks := [0, 2]) rfl), rfl⟩
 refine cnd rfl (fun h3 => ?_) fun h3 => ?_
 refine Run.skip ?_
 refine Run.block ?_
 refine Run.region ?_
 refine sx 5 ?_
 refine RunL.weak (L' := [pt b2 (blk [I (y + 1), I 0, I 0] 133), R0]) (Keep.sub (kt (ks := [0, 2]) rfl)) gv (RunL.nil ?_)
 exact ⟨_, by omega, y + 1, rfl, by omega, by omega, by omega, rfl, rfl⟩
 refine Run.exit ?_
 refine sr ?_
 have hfound := year_found hy1 hy2 hyn hn.2 (by omega)
 have hbw := before_wrap (y := y) (by omega) (by omega)
 refine sx 3 ?_
 refine RunL.call C148 rfl rfl rfl (ac148 _ (by omega) (by omega)) .nil ?_
 refine sx 2 ?_
 refine kq [0, 2] ?_
 refine rg 2 [0, 2] ?_
 refine Run.seq ?_
 refine Run.block ?_
 refine Run.loop (fun mm E L => ∃ m n : Int, mm = (12 - m).toNat ∧ 1 ≤ m ∧ m ≤ 12 ∧ 0 ≤ n ∧ n < restM (leapB y) m ∧ E = [(0, I n), (2, .pointer (some ⟨b2, 0, none⟩))] ∧ L = [pt b2 (blk [I y, I m, I 0] 133), R0]) ⟨_, 1, _, rfl, by omega, by omega, hfound.1, hfound.2, rfl, rfl⟩ ?_
 rintro _ _ _ ⟨m, k, rfl, hm1, hm2, hk0, hkr, rfl, rfl⟩
 refine Run.seq ?_
 refine sr ?_
 refine sx 5 ?_
 refine RunL.call C149 rfl rfl rfl (ac149 _ _ _ hR0) tks ?_
 refine sx 1 ?_
 refine kq [0, 2, 39] ?_
 refine cnd rfl (fun h4 => ?_) fun h4 => ?_
 refine Run.skip ?_
 refine Run.block ?_
 refine sr ?_
 have hnx := rest_next hm1 hm2 hkr (by omega)
 have hlr := @lenM_range (leapB y) m
 have hrl := @rest_le (leapB y) m
 refine sx 5 ?_
 refine RunL.call C149 rfl rfl rfl (ac149 _ _ _ hR0) tks ?_
 refine sx 2 ?_
 refine kq [0, 2] ?_
 refine Run.region ?_
 refine sx 5 ?_
 refine RunL.weak (L' := [pt b2 (blk [I y, I (m + 1), I 0] 133), R0]) (Keep.sub (kt (ks := [0, 2]) rfl)) gv (RunL.nil ?_)
 exact ⟨_, by omega, m + 1, _, rfl, by omega, by omega, hnx.2.1, hnx.2.2, rfl, rfl⟩
 refine Run.exit ?_
 refine sr ?_
 have hrl := @rest_le (leapB y) m
 refine sx 4 ?_
 refine kq [2] ?_
 refine rg 3 [2, 3] ?_
 refine Run.ret ?_
 exact ret_out (y, m, k + 1) (.cellA T115 rfl pk (by rfl) (.tmp rfl .nil)) trivial (by rw [if_pos (by simpa using h1)]; rfl) gv
theorem ac58 (n : Int) (R0 : HP) (hR0 : Rd R0 ⟨0, 0, none⟩ lensC) : AC Tryz.prog 64 ⟨[I n]⟩ (stars [R0]) (Ret (Bo (inB n 0 109572)) [R0]) := by
 refine eo Tryz.func64 fun β => ?_
 refine rg 1 [0] ?_
 refine sr ?_
 refine sx 1 ?_
 refine RunL.callX C105 rfl rfl rfl (ac105 _ _ hR0) tks fun x _ => ?_
 refine sx 3 ?_
 refine oal fun b3 => ?_
 refine sx 2 ?_
 refine kq [4] ?_
 refine rg 3 [2] ?_
 refine Run.ret ?_
 exact ret_one (.tmp rfl .nil) (congrArg Bo (by cases inB n 0 109572 <;> rfl)) gv
theorem ac106 (s : ByteArray) (hs : (s.size : Int) ≤ 12) : AC Tryz.prog 82 ⟨[St s, .func (.func 83) #[] #[]]⟩ (stars []) (Ret (Bo (everyB s)) []) := by
 refine eo Tryz.func82 fun β => ?_
 refine rg 1 [0, 1] ?_
 refine Run.seq ?_
 refine rg 3 [0, 1, 7, 8] ?_
 refine Run.block ?_
 refine Run.loop (fun mm E L => ∃ i : Nat, mm = s.size - i ∧ i ≤ s.size ∧ (∀ (j : Nat) u, j < i → s[j]? = some u → byteOk u = true) ∧ E = [(0, St s), (1, .func (.func 83) #[] #[]), (7, I s.size), (8, I i)] ∧ L = []) ⟨_, 0, rfl, Nat.zero_le _, fun _ _ h => by omega, rfl, rfl⟩ ?_
 rintro _ _ _ ⟨i, rfl, hi, hI0, rfl, rfl⟩
 refine rg 1 [0, 1, 7, 8, 9] ?_
 refine Run.seq ?_
 refine cnd rfl (fun h1 => ?_) fun h1 => ?_
 refine Run.skip ?_
 refine Run.seq ?_
 refine Run.block ?_
 refine rg 2 [0, 1, 5, 7, 8] ?_
 refine sr ?_
 obtain ⟨u, hu⟩ := byte_ex (s := s) (i := i) (by omega)
 refine sx 3 ?_
 refine RunL.op rfl rfl (OpJ.indexS U9 rfl rfl (by omega) hu ?_)
 refine RunL.call C107 rfl rfl rfl (ac107 _) .nil ?_
 refine RunL.op rfl rfl (OpJ.not rfl ?_)
 refine kq [0, 1, 7, 8, 16] ?_
 refine cnd rfl (fun h2 => ?_) fun h2 => ?_
 refine rg 1 [4] ?_
 exact .ret (ret_one (.tmp rfl .nil) (congrArg Bo (everyB_false hu (show (letterB _ || digitB _) = false by simpa only [Bool.not_eq_true'] using h2)).symm) gv)
 refine Run.skip ?_
 refine Run.region ?_
 refine sx 2 ?_
 exact RunL.next (Keep.sub (kt (ks := [0, 1, 7, 8]) rfl)) _ ⟨_, by omega, i + 1, rfl, by omega, fun j v hj hv => (by rcases Nat.lt_succ_iff_lt_or_eq.1 hj with h | rfl; exact hI0 j v h hv; rw [hu] at hv; cases hv; exact (show (letterB _ || digitB _) = true by simpa only [Bool.not_eq_false'] using h2)), rfl, rfl⟩ gv
 refine Run.exit ?_
 refine rg 1 [4] ?_
 exact .ret (ret_one (.tmp rfl .nil) (congrArg Bo (everyB_true fun j u hj hu => hI0 j u (by omega) hu).symm) gv)
theorem ac59 (s : ByteArray) : AC Tryz.prog 65 ⟨[St s]⟩ (stars []) (Ret (Bo (codeB s)) []) := by
 refine eo Tryz.func65 fun β => ?_
 refine rg 1 [0] ?_
 refine sr ?_
 refine sx 3 ?_
 refine spl 5 rfl (fun g1 => ?_) fun g1 => ?_
 refine sx 5 ?_
 refine spl 10 rfl (fun g2 => ?_) fun g2 => ?_
 refine sx 1 ?_
 refine RunL.callG C106 rfl rfl rfl rfl rfl (ac106 _ (by omega)) .nil ?_
 refine sx 2 ?_
 refine kq [2] ?_
 exact .ret (ret_one (.tmp rfl .nil) t0 .nil)
 refine sx 4 ?_
 refine kq [2] ?_
 exact .ret (ret_one (.tmp rfl .nil) t0 .nil)
 refine sx 9 ?_
 refine kq [2] ?_
 exact .ret (ret_one (.tmp rfl .nil) t0 .nil)
theorem ac63 (m : Mv) : AC Tryz.prog 69 ⟨[.agg ⟨m.c⟩]⟩ (stars []) (Ret (Bo m.lotOk) []) := by
 refine eo Tryz.func69 fun β => ?_
 refine sr ?_
 refine obx rfl fun b1 => ?_
 refine sx 1 ?_
 refine kq [1] ?_
 refine sr ?_
 refine sx 4 ?_
 refine spl 6 rfl (fun g1 => ?_) fun g1 => ?_
 refine sx 15 ?_
 refine kq [2] ?_
 exact .ret (ret_one (.tmp rfl .nil) t0 .nil)
 refine sx 2 ?_
 refine RunL.callG C59 rfl rfl rfl rfl rfl (ac59 _) .nil ?_
 refine sx 1 ?_
 refine spl 10 rfl (fun g2 => ?_) fun g2 => ?_
 refine sx 4 ?_
 refine spl 14 rfl (fun g3 => ?_) fun g3 => ?_
 refine sx 7 ?_
 refine kq [2] ?_
 exact .ret (ret_one (.tmp rfl .nil) t0 .nil)
 refine sx 7 ?_
 refine kq [2] ?_
 exact .ret (ret_one (.tmp rfl .nil) t0 .nil)
 refine sx 11 ?_
 refine kq [2] ?_
 exact .ret (ret_one (.tmp rfl .nil) t0 .nil)
theorem ac30 (m : Mv) (R0 : HP) (hR0 : Rd R0 ⟨0, 0, none⟩ lensC) : AC Tryz.prog 50 ⟨[.agg ⟨m.c⟩]⟩ (stars [R0]) (Ret (I m.one) [R0]) := by
 refine eo Tryz.func50 fun β => ?_
 refine sr ?_
 refine obx rfl fun b1 => ?_
 refine sx 1 ?_
 refine kq [1] ?_
 refine Run.seq ?_
 refine Run.block ?_
 refine sr ?_
 refine sx 2 ?_
 refine RunL.call C58 rfl rfl rfl (ac58 _ _ hR0) tks ?_
 refine sx 2 ?_
 refine kq [1, 3] ?_
 refine cnd rfl (fun h1 => ?_) fun h1 => ?_
 refine rg 1 [2] ?_
 exact .ret (ret_one (.tmp rfl .nil) t2 gv)
 refine sr ?_
 refine sx 2 ?_
 refine RunL.call C59 rfl rfl rfl (ac59 _) .nil ?_
 refine sx 2 ?_
 refine kq [1, 8] ?_
 refine cnd rfl (fun h2 => ?_) fun h2 => ?_
 refine rg 1 [2] ?_
 exact .ret (ret_one (.tmp rfl .nil) t2 gv)
 refine sr ?_
 refine sx 2 ?_
 refine RunL.call C60 rfl rfl rfl (ac60 _ _ _) .nil ?_
 refine sx 2 ?_
 refine kq [1, 13] ?_
 refine cnd rfl (fun h3 => ?_) fun h3 => ?_
 refine rg 1 [2] ?_
 exact .ret (ret_one (.tmp rfl .nil) t2 gv)
 refine sr ?_
 refine sx 1 ?_
 refine RunL.call C61 rfl rfl rfl (ac61 _) .nil ?_
 refine sx 2 ?_
 refine spl 22 rfl (fun g4 => ?_) fun g4 => ?_
 refine sx 5 ?_
 refine kq [1, 18] ?_
 refine Run.true rfl ?_
 refine rg 1 [2] ?_
 exact .ret (ret_one (.tmp rfl .nil) t2 gv)
 refine sx 1 ?_
 refine RunL.callG C62 rfl rfl rfl rfl rfl (ac62 _) .nil ?_
 refine sx 3 ?_
 refine kq [1, 18] ?_
 refine cnd rfl (fun h5 => ?_) fun h5 => ?_
 refine rg 1 [2] ?_
 exact .ret (ret_one (.tmp rfl .nil) t2 gv)
 refine sr ?_
 refine sx 1 ?_
 refine RunL.call C63 rfl rfl rfl (ac63 _) .nil ?_
 refine sx 2 ?_
 refine kq [1, 27] ?_
 refine cnd rfl (fun h6 => ?_) fun h6 => ?_
 refine rg 1 [2] ?_
 exact .ret (ret_one (.tmp rfl .nil) t2 gv)
 refine sr ?_
 refine sx 2 ?_
 refine RunL.call C64 rfl rfl rfl (ac64 _) .nil ?_
 refine sx 1 ?_
 refine spl 35 rfl (fun g7 => ?_) fun g7 => ?_
 refine sx 5 ?_
 refine spl 40 rfl (fun g8 => ?_) fun g8 => ?_
 refine sx 11 ?_
 refine kq [31] ?_
 refine Run.true rfl ?_
 refine rg 1 [2] ?_
 exact .ret (ret_one (.tmp rfl .nil) t2 gv)
 refine sx 2 ?_
 refine RunL.callG C64 rfl rfl rfl rfl rfl (ac64 _) .nil ?_
 refine sx 2 ?_
 refine spl 45 rfl (fun g9 => ?_) fun g9 => ?_
 refine sx 6 ?_
 refine kq [31] ?_
 refine cnd rfl (fun h10 => ?_) fun h10 => ?_
 refine rg 1 [2] ?_
 exact .ret (ret_one (.tmp rfl .nil) t2 gv)
 refine Run.skip ?_
 refine rg 1 [2] ?_
 exact .ret (ret_one (.tmp rfl .nil) t2 gv)
 refine sx 6 ?_
 refine kq [31] ?_
 refine Run.false rfl ?_
 refine Run.skip ?_
 refine rg 1 [2] ?_
 exact .ret (ret_one (.tmp rfl .nil) t2 gv)
 refine sx 7 ?_
 refine RunL.callG C64 rfl rfl rfl rfl rfl (ac64 _) .nil ?_
 refine sx 2 ?_
 refine spl 45 rfl (fun g11 => ?_) fun g11 => ?_
 refine sx 6 ?_
 refine kq [31] ?_
 refine cnd rfl (fun h12 => ?_) fun h12 => ?_
 refine rg 1 [2] ?_
 exact .ret (ret_one (.tmp rfl .nil) t2 gv)
 refine Run.skip ?_
 refine rg 1 [2] ?_
 exact .ret (ret_one (.tmp rfl .nil) t2 gv)
 refine sx 6 ?_
 refine kq [31] ?_
 refine Run.false rfl ?_
 refine Run.skip ?_
 refine rg 1 [2] ?_
 exact .ret (ret_one (.tmp rfl .nil) t2 gv)
theorem ac68 (v q n : Int) (hv : i64 v) (hq : i64 q) (hn : i64 n) : AC Tryz.prog 123 ⟨[I v, I q, I n]⟩ (stars []) (Ret (I (partN v q n)) []) := by
 refine eo Tryz.func123 fun β => ?_
 refine rg 1 [0, 1, 2] ?_
 refine Run.seq ?_
 refine rg 3 [0, 1, 2, 11] ?_
 refine cnd rfl (fun h1 => ?_) fun h1 => ?_
 refine rg 2 [6] ?_
 exact .ret (ret_one (.tmp rfl .nil) t0 .nil)
 refine Run.skip ?_
 refine sr ?_
 refine sx 3 ?_
 refine RunL.call C111 rfl rfl rfl (ac111 _ _ _ _ (by omega) (by omega) (by omega)) .nil ?_
 refine sx 5 ?_
 refine kq [7] ?_
 refine rg 2 [6] ?_
 exact .ret (ret_one (.tmp rfl .nil) t0 .nil)
theorem ac29 (s : Sk) (la : Option Addr) (lc : Nat) (pa : Option Addr) (pc : Nat) (RL RP : HP) (hs : s.ok 1000000) (hRL : RdS RL la (s.layers.flatMap Ly.c)) (hRP : RdS RP pa (s.past.flatMap Pa.c)) : AC Tryz.prog 87 ⟨[.agg ⟨s.c la lc pa pc⟩]⟩ (stars [RL, RP]) (Outs (fun _ : Nat × Nat => True) (fun x => .agg ⟨s.c (some ⟨x.1, 0, none⟩) s.layers.length (some ⟨x.2, 0, none⟩) s.past.length⟩) (fun x => [own 96 4 (some ⟨x.1, 0, none⟩) s.layers.length s.layers.length ((s.layers).flatMap Ly.c), own 98 7 (some ⟨x.2, 0, none⟩) s.past.length s.past.length ((s.past).flatMap Pa.c), RL, RP])) := by
 have hnl := hs.nl; have hnp := hs.np
 refine eo Tryz.func87 fun β => ?_
 refine sr ?_
 refine obx rfl fun b1 => ?_
 refine oal fun b2 => ?_
 refine kq [1, 2] ?_
 refine Run.seq ?_
 refine regionD HM ?_
 refine RunD.mono (K' := fun E' L' => ∃ b8 : Nat, ∃ b12 : Nat, E' = [(1, .pointer (some ⟨b1, 0, none⟩)), (2, .pointer (some ⟨b2, 0, none⟩)), (3, .slice (some ⟨b8, 0, none⟩) s.layers.length s.layers.length), (4, .slice (some ⟨b12, 0, none⟩) s.past.length s.past.length)] ∧ L' = [pt b8 (blk (List.replicate s.layers.length [I 0, St ⟨#[]⟩, I 0, I 0]).flatten 96), pt b12 (blk (List.replicate s.past.length [I 0, I 0, St ⟨#[]⟩, I 0, I 0, I 0, I 0]).flatten 98), pt b1 (blk (s.c la lc pa pc) 61), pt b2 (blk [I 0, I 0, I 0, .slice none 0 0, .slice none 0 0] 61), RL, RP]) ?_ ?_
 refine dx [0, 1, 2, 4, 5, 6] ?_
 refine RunD.two 3 7 [true, true, true, false, false, false] [false, false, false, true, true, true] rfl rfl rfl rfl rfl rfl kr kr kr (OpJ.make S25 M64 rfl rfl (by omega) (by omega) fun b8 => ⟨po, ?_⟩) (OpJ.make S26 M66 rfl rfl (by omega) (by omega) fun b12 => ⟨po, ?_⟩)
 refine dx [8] ?_
 refine RunD.op 7 [true, false, false, false] rfl rfl rfl kr kr (OpJ.make S26 M66 rfl rfl (by omega) (by omega) fun b12 => ⟨po, ?_⟩)
 refine dx [9] ?_
 exact dwk ⟨_, _, rfl, rfl⟩ rfl gv
 refine RunD.op 3 [false, false, false] rfl rfl rfl kr kr (OpJ.make S25 M64 rfl rfl (by omega) (by omega) fun b8 => ⟨po, ?_⟩)
 refine dx [8, 9] ?_
 exact dwk ⟨_, _, rfl, rfl⟩ rfl gv
 rintro _ _ ⟨b8, b12, rfl, rfl⟩
 refine sr ?_
 refine sx 3 ?_
 refine RunL.op rfl rfl (OpJ.copyAll S25 rfl rfl up pk hRL (flat_len (enc := Ly.c) (k := 4) (fun _ => rfl) _) (by simp) (flat_one Ly.one _) ?_)
 refine kq [1, 2, 3, 4] ?_
 refine sr ?_
 refine sx 3 ?_
 refine RunL.op rfl rfl (OpJ.copyAll S26 rfl rfl up pk hRP (flat_len (enc := Pa.c) (k := 7) (fun _ => rfl) _) (by simp) (flat_one Pa.one _) ?_)
 refine kq [1, 2, 3, 4] ?_
 refine rg 6 [1, 2] ?_
 refine rg 2 [2] ?_
 exact .ret (ret_out (b8, b12) (.cellA T28 rfl pk (by rfl) .nil) trivial rfl gv)
theorem ac31 (bx : Nat) (t : Sk) (m : Mv) (c : Co) (la : Option Addr) (nl lc : Nat) (pa : Option Addr) (np pc : Nat) (kind seq : Int) (enl : nl = t.layers.length) (enp : np = t.past.length) (hn : t.layers.length ≤ 1000000 ∧ t.past.length ≤ 1000000) : AC Tryz.prog 88 ⟨[.pointer (some ⟨bx, 0, none⟩), I kind, I seq]⟩ (stars [pt bx (blk (XC t m c la nl lc pa np pc) 142), own 98 7 pa np pc ((t.past).flatMap Pa.c)]) (Ret (.pointer (ptrOf pa 7 (findI (isPast kind seq) t.past))) [pt bx (blk (XC t m c la nl lc pa np pc) 142), own 98 7 pa np pc ((t.past).flatMap Pa.c)]) := by
 subst enl enp
 have hnl := hn.1; have hnp := hn.2
 refine eo Tryz.func88 fun β => ?_
 refine rg 1 [0, 1, 2] ?_
 refine Run.seq ?_
 refine rg 7 [0, 1, 2, 14, 15] ?_
 refine Run.block ?_
 refine Run.loop (fun mm E L => ∃ i : Nat, mm = t.past.length - i ∧ i ≤ t.past.length ∧ (∀ j y, j < i → t.past[j]? = some y → isPast kind seq y = false) ∧ E = [(0, .pointer (some ⟨bx, 0, none⟩)), (1, I kind), (2, I seq), (14, I t.past.length), (15, I i)] ∧ L = [pt bx (blk (XC t m c la t.layers.length lc pa t.past.length pc) 142), own 98 7 pa t.past.length pc ((t.past).flatMap Pa.c)]) ⟨_, 0, rfl, Nat.zero_le _, fun _ _ h => by omega, rfl, rfl⟩ ?_
 rintro _ _ _ ⟨i, rfl, hi, hI0, rfl, rfl⟩
 refine rg 1 [0, 1, 2, 14, 15, 16] ?_
 refine Run.seq ?_
 refine cnd rfl (fun h1 => ?_) fun h1 => ?_
 refine Run.skip ?_
 refine Run.seq ?_
 refine Run.block ?_
 refine rg 2 [0, 1, 2, 7, 14, 15] ?_
 refine sr ?_
 obtain ⟨x, hx⟩ := get_ex (xs := t.past) (by omega)
 refine RunL.ownAddr pk (flat_ne (k := 7) (fun _ => rfl) (by decide) hx) fun b e hcap => ?_
 subst e
 refine sx 8 ?_
 refine kq [0, 1, 2, 8, 14, 15] ?_
 refine sr ?_
 refine sx 7 ?_
 refine spl 31 rfl (fun g2 => ?_) fun g2 => ?_
 refine sx 3 ?_
 refine spl 34 rfl (fun g3 => ?_) fun g3 => ?_
 refine sx 8 ?_
 refine kq [0, 1, 2, 8, 14, 15, 42] ?_
 refine Run.true rfl ?_
 refine rg 2 [6] ?_
 refine Run.ret ?_
 exact ret_one (.tmp rfl .nil) (congrArg Value.pointer (by rw [findI_at hx (by simp [isPast, *]) hI0]; rfl)) gv
 refine sx 8 ?_
 refine kq [0, 1, 2, 8, 14, 15, 42] ?_
 refine cnd rfl (fun h4 => ?_) fun h4 => ?_
 refine rg 2 [6] ?_
 refine Run.ret ?_
 exact ret_one (.tmp rfl .nil) (congrArg Value.pointer (by rw [findI_at hx (by simp [isPast, *]) hI0]; rfl)) gv
 refine Run.skip ?_
 refine Run.region ?_
 refine sx 2 ?_
 exact RunL.next (Keep.sub (kt (ks := [0, 1, 2, 14, 15]) rfl)) _ ⟨_, by omega, i + 1, rfl, by omega, notYet hx (by simp [isPast, *]) hI0, rfl, rfl⟩ gv
 refine sx 11 ?_
 refine kq [0, 1, 2, 8, 14, 15, 42] ?_
 refine Run.false rfl ?_
 refine Run.skip ?_
 refine Run.region ?_
 refine sx 2 ?_
 exact RunL.next (Keep.sub (kt (ks := [0, 1, 2, 14, 15]) rfl)) _ ⟨_, by omega, i + 1, rfl, by omega, notYet hx (by simp [isPast, *]) hI0, rfl, rfl⟩ gv
 refine Run.exit ?_
 refine rg 1 [6] ?_
 refine Run.ret ?_
 exact ret_one (.tmp rfl .nil) (congrArg Value.pointer (by rw [findI_none (fun j y hj => hI0 j y (by omega))]; rfl)) gv
theorem ac65 (bx : Nat) (t : Sk) (m : Mv) (c : Co) (la : Option Addr) (nl lc : Nat) (pa : Option Addr) (np pc : Nat) (l : Ly) (enl : nl = t.layers.length) (enp : np = t.past.length) (hn : t.layers.length ≤ 1000000 ∧ t.past.length ≤ 1000000) : AC Tryz.prog 120 ⟨[.pointer (some ⟨bx, 0, none⟩), .agg ⟨l.c⟩]⟩ (stars [pt bx (blk (XC t m c la nl lc pa np pc) 142), own 96 4 la nl lc ((t.layers).flatMap Ly.c)]) (Outs (fun _ : Option Addr × Nat => True) (fun _ => .tuple ⟨[]⟩) (fun x => [pt bx (blk (XC { t with layers := t.layers ++ [l] } m c x.1 (t.layers ++ [l]).length x.2 pa np pc) 142), own 96 4 x.1 (t.layers ++ [l]).length x.2 ((t.layers ++ [l]).flatMap Ly.c)])) := by
 subst enl enp
 have hnl := hn.1; have hnp := hn.2
 refine eo Tryz.func120 fun β => ?_
 refine sr ?_
 refine obx rfl fun b3 => ?_
 refine kq [0, 3] ?_
 refine regionD HM ?_
 refine dx [0, 1, 2, 3, 4, 5, 6] ?_
 refine RunD.op 7 [false, true, true, true, true, true, true] rfl rfl rfl kr kr (OpJ.buildSlice1 S25 rfl rfl rfl (by decide) (by decide) Z64 rfl fun b11 => ⟨po, ?_⟩)
 refine RunD.op 8 [false, false, false, true, true, true] rfl rfl rfl kr kr (OpJ.append1 l S25 M64 rfl rfl pk pk rfl rfl (by simp [Value.oneCell', Pa.c, Ly.c, Mv.c, Co.c]) rfl (by omega) (by omega) fun a12 c12 => ⟨po, ?_⟩)
 refine dx [9, 10, 11] ?_
 refine RunD.op 12 [false, false, false, false, false, false] rfl rfl rfl kr kr (OpJ.store1 T25 rfl rfl rfl up (by simp) ⟨po, ?_⟩)
 refine kd [] rfl ?_
 exact ret_out (a12, c12) .nil trivial rfl gv
theorem ac110 (bx : Nat) (t : Sk) (m : Mv) (c : Co) (la : Option Addr) (nl lc : Nat) (pa : Option Addr) (np pc : Nat) (i : Nat) (hi : i < t.layers.length) (enl : nl = t.layers.length) (enp : np = t.past.length) (hn : t.layers.length ≤ 1000000 ∧ t.past.length ≤ 1000000) : AC Tryz.prog 159 ⟨[.pointer (some ⟨bx, 0, none⟩), I (i : Int)]⟩ (stars [pt bx (blk (XC t m c la nl lc pa np pc) 142), own 96 4 la nl lc ((t.layers).flatMap Ly.c)]) (Outs (fun _ : Option Addr × Nat => True) (fun _ => .tuple ⟨[]⟩) (fun x => [pt bx (blk (XC { t with layers := t.layers.eraseIdx i } m c x.1 (t.layers.eraseIdx i).length x.2 pa np pc) 142), own 96 4 x.1 (t.layers.eraseIdx i).length x.2 ((t.layers.eraseIdx i).flatMap Ly.c)])) := by
 subst enl enp
 have hnl := hn.1; have hnp := hn.2
 obtain ⟨x, hx⟩ := get_ex (xs := t.layers) (i := i) (by omega)
 refine eo Tryz.func159 fun β => ?_
 refine regionD HM ?_
 refine RunD.ownAddr pk (flat_ne (k := 4) (fun _ => rfl) (by decide) hx) fun b e hcap => ?_
 subst e
 refine dx [0, 1, 2, 3, 4, 5, 6, 7] ?_
 refine tk 8 rfl rfl rfl (DetJ.sliceHiMax S25 rfl rfl rfl (by omega)) ?_
 refine dx [9, 10, 11, 12, 13, 14, 15] ?_
 refine tk 16 rfl rfl rfl (DetJ.sliceLo (i := i + 1) S25 rfl rfl (by omega)) ?_
 refine RunD.op 17 [false, false, false, false, false, true, true, true, false, false, false, false, false, true, true, true, true] rfl rfl rfl kr kr (OpJ.removeGrow S25 M64 rfl rfl pk rfl hi (fun _ => rfl) (by decide) (by omega) (by omega) fun a21 c21 => ⟨po, ?_⟩)
 refine dx [18, 19, 20] ?_
 refine RunD.op 21 [false, false, false, false, false, false, false, false, false, false] rfl rfl rfl kr kr (OpJ.store1 T25 rfl rfl rfl up (by simp) ⟨po, ?_⟩)
 refine kd [] rfl ?_
 exact ret_out (a21, c21) .nil trivial rfl gv
end
theorem ac110x (bx : Nat) (t : Sk) (m : Mv) (c : Co) (la : Option Addr) (lc : Nat) (pa : Option Addr) (np pc : Nat) (i : Nat) (l : Ly) (hi : i < t.layers.length) (enp : np = t.past.length) (hn : t.layers.length ≤ 1000000 ∧ t.past.length ≤ 1000000) : AC Tryz.prog 159 ⟨[.pointer (some ⟨bx, 0, none⟩), I (i : Int)]⟩ (stars [pt bx (blk (XC t m c la t.layers.length lc pa np pc) 142), own 96 4 la t.layers.length lc ((t.layers.set i l).flatMap Ly.c)]) (Outs (fun _ : Option Addr × Nat => True) (fun _ => .tuple ⟨[]⟩) (fun x => [pt bx (blk (XC { t with layers := t.layers.eraseIdx i } m c x.1 (t.layers.eraseIdx i).length x.2 pa np pc) 142), own 96 4 x.1 (t.layers.eraseIdx i).length x.2 ((t.layers.eraseIdx i).flatMap Ly.c)])) := by
  have h := ac110 bx { t with layers := t.layers.set i l } m c la t.layers.length lc pa np pc i (by simpa using hi) (by simp) enp (by simpa using hn)
  simp only [List.eraseIdx_set_eq] at h
  exact h
section
attribute [local irreducible] OpJ RunL Run RunD DetJ pt own star Rd RdS
theorem ac69 (bx : Nat) (t : Sk) (m : Mv) (c : Co) (la : Option Addr) (nl lc : Nat) (pa : Option Addr) (np pc : Nat) (seq : Int) (enl : nl = t.layers.length) (enp : np = t.past.length) (hn : t.layers.length ≤ 1000000 ∧ t.past.length ≤ 1000000) : AC Tryz.prog 124 ⟨[.pointer (some ⟨bx, 0, none⟩), I seq]⟩ (stars [pt bx (blk (XC t m c la nl lc pa np pc) 142), own 96 4 la nl lc ((t.layers).flatMap Ly.c)]) (Ret (I (idxOf (findI (isLy seq) t.layers))) [pt bx (blk (XC t m c la nl lc pa np pc) 142), own 96 4 la nl lc ((t.layers).flatMap Ly.c)]) := by
 subst enl enp
 have hnl := hn.1; have hnp := hn.2
 refine eo Tryz.func124 fun β => ?_
 refine rg 1 [0, 1] ?_
 refine Run.seq ?_
 refine rg 7 [1, 11, 12, 13] ?_
 refine Run.block ?_
 refine Run.loop (fun mm E L => ∃ i : Nat, mm = t.layers.length - i ∧ i ≤ t.layers.length ∧ (∀ j y, j < i → t.layers[j]? = some y → isLy seq y = false) ∧ E = [(1, I seq), (11, .slice la t.layers.length lc), (12, I t.layers.length), (13, I i)] ∧ L = [pt bx (blk (XC t m c la t.layers.length lc pa t.past.length pc) 142), own 96 4 la t.layers.length lc ((t.layers).flatMap Ly.c)]) ⟨_, 0, rfl, Nat.zero_le _, fun _ _ h => by omega, rfl, rfl⟩ ?_
 rintro _ _ _ ⟨i, rfl, hi, hI0, rfl, rfl⟩
 refine rg 1 [1, 11, 12, 13, 14] ?_
 refine Run.seq ?_
 refine cnd rfl (fun h1 => ?_) fun h1 => ?_
 refine Run.skip ?_
 refine Run.seq ?_
 refine Run.block ?_
 refine sr ?_
 obtain ⟨x, hx⟩ := get_ex (xs := t.layers) (i := i) (by omega)
 refine RunL.ownAddr pk (flat_ne (k := 4) (fun _ => rfl) (by decide) hx) fun b e hcap => ?_
 subst e
 refine sx 3 ?_
 refine oal fun b6 => ?_
 refine sx 2 ?_
 refine kq [1, 5, 6, 11, 12, 13] ?_
 refine rg 4 [1, 5, 11, 12, 13, 21] ?_
 refine cnd rfl (fun h2 => ?_) fun h2 => ?_
 refine rg 2 [4] ?_
 refine Run.ret ?_
 exact ret_one (.tmp rfl .nil) (congrArg I (by rw [findI_at hx (by simp [isLy, *]) hI0]; rfl)) gv
 refine Run.skip ?_
 refine Run.region ?_
 refine sx 2 ?_
 exact RunL.next (Keep.sub (kt (ks := [1, 11, 12, 13]) rfl)) _ ⟨_, by omega, i + 1, rfl, by omega, notYet hx (by simp [isLy, *]) hI0, rfl, rfl⟩ gv
 refine Run.exit ?_
 refine rg 1 [4] ?_
 refine Run.ret ?_
 exact ret_one (.tmp rfl .nil) (congrArg I (by rw [findI_none (fun j y hj => hI0 j y (by omega))]; rfl)) gv
theorem ac66 (bx : Nat) (t : Sk) (m : Mv) (c : Co) (la : Option Addr) (nl lc : Nat) (pa : Option Addr) (np pc : Nat) (i : Nat) (l : Ly) (q : Int) (hx : t.layers[i]? = some l) (hl : l.ok) (hq : i64 q) (enl : nl = t.layers.length) (enp : np = t.past.length) (hn : t.layers.length ≤ 1000000 ∧ t.past.length ≤ 1000000) : AC Tryz.prog 121 ⟨[.pointer (some ⟨bx, 0, none⟩), I (i : Int), I q]⟩ (stars [pt bx (blk (XC t m c la nl lc pa np pc) 142), own 96 4 la nl lc ((t.layers).flatMap Ly.c)]) (Outs (fun _ : Option Addr × Nat => True) (fun _ => I (takeV l q)) (fun x => [pt bx (blk (XC { t with layers := takeL t.layers i l q } m c x.1 (takeL t.layers i l q).length x.2 pa np pc) 142), own 96 4 x.1 (takeL t.layers i l q).length x.2 ((takeL t.layers i l q).flatMap Ly.c)])) := by
 subst enl enp
 have hnl := hn.1; have hnp := hn.2
 have hi : i < t.layers.length := (List.getElem?_eq_some_iff.1 hx).1
 obtain ⟨hl1, hl2⟩ := hl
 have hx1 := set_get hx { l with qty := W (l.qty - q) }
 refine eo Tryz.func121 fun β => ?_
 refine rg 1 [0, 1, 2] ?_
 refine sr ?_
 refine RunL.ownAddr pk (flat_ne (k := 4) (fun _ => rfl) (by decide) hx) fun b e hcap => ?_
 subst e
 refine sx 8 ?_
 refine kq [0, 1, 2, 7] ?_
 refine Run.seq ?_
 refine regionD HM ?_
 refine dx [0, 1, 2, 3, 4, 5, 6, 7, 8] ?_
 refine RunD.op 9 [false, false, false, true, false, false, false, false, true] rfl rfl rfl kr kr (OpJ.callRet C68 rfl rfl (ac68 _ _ _ hl2 hq hl1) .nil ⟨po, ?_⟩)
 refine dx [10] ?_
 refine kd [0, 1, 2, 7, 8] rfl ?_
 refine sr ?_
 refine sx 5 ?_
 refine RunL.op rfl rfl (OpJ.sub rfl rfl ?_)
 refine sx 2 ?_
 refine RunL.op rfl rfl (OpJ.storeO (i := i) (u' := { l with qty := W (l.qty - q) }) T3 rfl rfl rfl hx (fun _ => rfl) (by decide) rfl up ?_)
 refine kq [0, 1, 7, 8] ?_
 refine sr ?_
 refine sx 3 ?_
 refine RunL.op rfl rfl (OpJ.loadO T3 rfl pk hx1 (by rfl) (by exact fun _ => rfl) ?_)
 refine sx 1 ?_
 refine RunL.op rfl rfl (OpJ.sub rfl rfl ?_)
 refine sx 2 ?_
 refine RunL.op rfl rfl (OpJ.storeO (i := i) (u' := takeX l q) T3 rfl rfl rfl hx1 (fun _ => rfl) (by decide) rfl up ?_)
 rw [List.set_set]
 refine kq [0, 1, 7, 8] ?_
 refine Run.seq ?_
 refine sr ?_
 refine sx 3 ?_
 refine RunL.op rfl rfl (OpJ.loadO T3 rfl pk (set_get hx (takeX l q)) (by rfl) (by exact fun _ => rfl) ?_)
 refine sx 1 ?_
 refine kq [0, 1, 8, 46] ?_
 refine cnd rfl (fun h1 => ?_) fun h1 => ?_
 refine Run.region ?_
 refine sx 2 ?_
 refine RunL.callX C110 rfl rfl rfl (ac110x bx t m c _ lc pa _ pc i (takeX l q) hi rfl hn) tks fun ⟨a49, c49⟩ _ => ?_
 refine kq [8] ?_
 refine rg 2 [6] ?_
 refine Run.ret ?_
 refine ret_out (a49, c49) (.tmp rfl .nil) trivial rfl ?_; simp only [takeL, if_pos (show W (l.qty - q) = 0 from h1)]; exact gv
 refine Run.skip ?_
 refine rg 2 [6] ?_
 refine Run.ret ?_
 refine ret_out (some ⟨b, 0, none⟩, lc) (.tmp rfl .nil) trivial rfl ?_; simp only [takeL, if_neg (show ¬ W (l.qty - q) = 0 from h1), XC, List.length_set]; exact gv
theorem ac67 (bx : Nat) (t : Sk) (m : Mv) (c : Co) (la : Option Addr) (nl lc : Nat) (pa : Option Addr) (np pc : Nat) (kind : Int) (enl : nl = t.layers.length) (enp : np = t.past.length) (hn : t.layers.length ≤ 1000000 ∧ t.past.length ≤ 1000000) : AC Tryz.prog 122 ⟨[.pointer (some ⟨bx, 0, none⟩), I kind]⟩ (stars [pt bx (blk (XC t m c la nl lc pa np pc) 142), own 98 7 pa np pc ((t.past).flatMap Pa.c)]) (Ret (.tuple ⟨[.pointer (okPtr pa 7 (refd kind m t.past)), I (errOf (refd kind m t.past))]⟩) [pt bx (blk (XC t m c la nl lc pa np pc) 142), own 98 7 pa np pc ((t.past).flatMap Pa.c)]) := by
 subst enl enp
 have hnl := hn.1; have hnp := hn.2
 refine eo Tryz.func122 fun β => ?_
 refine rg 2 [0, 1] ?_
 refine sr ?_
 refine sx 7 ?_
 refine RunL.call C31 rfl rfl rfl (ac31 bx t m c la _ lc pa _ pc _ _ rfl rfl hn) tks ?_
 refine sx 1 ?_
 refine kq [0, 6] ?_
 refine Run.seq ?_
 refine Run.block ?_
 refine sr ?_
 refine sx 3 ?_
 rcases hf : findI (isPast kind m.ref) t.past with _ | ⟨i, p⟩
 refine kq [0, 6, 15] ?_
 refine Run.true rfl ?_
 refine rg 2 [4, 5] ?_
 exact .ret (ret_one (.tmp rfl (.tmp rfl .nil)) (by simp [tup, refd, hf, okPtr, errOf, ptrOf, *]) gv)
 obtain ⟨hx, _⟩ := findI_some hf
 refine RunL.ownAddr pk (flat_ne (k := 7) (fun _ => rfl) (by decide) hx) fun b e hcap => ?_
 subst e
 refine kq [0, 6, 15] ?_
 refine Run.false rfl ?_
 refine Run.seq ?_
 refine regionD HM ?_
 refine dx [0, 1, 2, 3, 4, 5, 6, 7, 8, 9, 10, 11, 12] ?_
 refine tk 13 rfl rfl rfl (DetJ.sub rfl rfl) ?_
 refine dx [14, 15] ?_
 refine kd [6, 18] rfl ?_
 refine cnd rfl (fun h1 => ?_) fun h1 => ?_
 refine rg 2 [4, 5] ?_
 exact .ret (ret_one (.tmp rfl (.tmp rfl .nil)) (by simp [tup, refd, hf, okPtr, errOf, ptrOf, *]) gv)
 refine Run.skip ?_
 refine rg 3 [4, 5] ?_
 exact .ret (ret_one (.tmp rfl (.tmp rfl .nil)) (by simp [tup, refd, hf, okPtr, errOf, ptrOf, *]) gv)
theorem ac33 (bx : Nat) (t : Sk) (m : Mv) (c : Co) (la : Option Addr) (nl lc : Nat) (pa : Option Addr) (np pc : Nat) (enl : nl = t.layers.length) (enp : np = t.past.length) (ht : t.ok 999999) (hm : m.ok) : AC Tryz.prog 90 ⟨[.pointer (some ⟨bx, 0, none⟩)]⟩ (stars [pt bx (blk (XC t m c la nl lc pa np pc) 142), own 96 4 la nl lc ((t.layers).flatMap Ly.c), own 98 7 pa np pc ((t.past).flatMap Pa.c)]) (Outs (fun _ : Option Addr × Nat × Option Addr × Nat => True) (fun _ => I (errOf (fRecv t m c))) (fun x => Aft 142 96 98 bx m (fRecv t m c) x)) := by
 subst enl enp
 have hn : t.layers.length ≤ 1000000 ∧ t.past.length ≤ 1000000 := ⟨Nat.le_trans ht.nl (by decide), Nat.le_trans ht.np (by decide)⟩
 have hnl := ht.nl; have hnp := ht.np
 obtain ⟨hm1, hm2⟩ := hm
 have hres : fRecv t m c = .ok _ := rfl
 refine eo Tryz.func90 fun β => ?_
 refine rg 1 [0] ?_
 refine sr ?_
 refine sx 4 ?_
 refine oal fun b3 => ?_
 refine sx 1 ?_
 refine kq [0, 3] ?_
 refine sr ?_
 refine sx 10 ?_
 refine RunL.callX C65 rfl rfl rfl (ac65 bx t m c la _ lc pa _ pc ⟨m.seq, m.lot, m.qty, m.cost⟩ rfl rfl hn) tks fun ⟨la2, lc2⟩ _ => ?_
 refine kq [0, 3] ?_
 refine Run.seq ?_
 refine regionD HM ?_
 refine dx [0, 1, 2, 3, 4, 5, 6, 7, 8, 9, 10, 11, 12, 13, 14, 15, 16] ?_
 refine RunD.op 17 [false, false, false, false, false, false, false, false, false, false, false, true, true, true, true, true, true] rfl rfl rfl kr kr (OpJ.buildSlice1 S26 rfl rfl rfl (by decide) (by decide) Z66 rfl fun b36 => ⟨po, ?_⟩)
 refine RunD.op 18 [false, false, false, true, true, true] rfl rfl rfl kr kr (OpJ.append1 (⟨m.seq, m.kind, m.lot, m.qty, m.cost, 0, 0⟩ : Pa) S26 M66 rfl rfl pk pk rfl rfl (by simp [Value.oneCell', Pa.c, Ly.c, Mv.c, Co.c]) rfl (by omega) (by omega) fun a37 c37 => ⟨po, ?_⟩)
 refine dx [19, 20, 21] ?_
 refine RunD.op 22 [false, false, false, false, false, false] rfl rfl rfl kr kr (OpJ.store1 T26 rfl rfl rfl up (by simp) ⟨po, ?_⟩)
 refine kd [0, 3] rfl ?_
 refine Run.seq ?_
 refine regionD HM ?_
 refine dx [0, 1, 2, 3, 4, 5, 6, 7, 8] ?_
 refine RunD.op 9 [false, false, false, true, true, false, false, true, false] rfl rfl rfl kr kr (OpJ.store1 T3 rfl rfl rfl up (by simp) ⟨po, ?_⟩)
 refine dx [10, 11, 12] ?_
 refine RunD.op 13 [false, false, false, false, false, false] rfl rfl rfl kr kr (OpJ.store1 T3 rfl rfl rfl up (by simp) ⟨po, ?_⟩)
 refine kd [] rfl ?_
 refine rg 1 [2] ?_
 refine Run.ret ?_
 refine ret_out (la2, lc2, a37, c37) (.tmp rfl .nil) trivial (by rw [hres]; rfl) ?_; rw [hres]; simp only [Aft, List.length_set, List.length_append]; exact gv
theorem ac34 (bx : Nat) (t : Sk) (m : Mv) (c : Co) (la : Option Addr) (nl lc : Nat) (pa : Option Addr) (np pc : Nat) (enl : nl = t.layers.length) (enp : np = t.past.length) (ht : t.ok 999999) (hm : m.ok) : AC Tryz.prog 91 ⟨[.pointer (some ⟨bx, 0, none⟩)]⟩ (stars [pt bx (blk (XC t m c la nl lc pa np pc) 142), own 96 4 la nl lc ((t.layers).flatMap Ly.c), own 98 7 pa np pc ((t.past).flatMap Pa.c)]) (Outs (fun _ : Option Addr × Nat × Option Addr × Nat => True) (fun _ => I (errOf (fIssue t m c))) (fun x => Aft 142 96 98 bx m (fIssue t m c) x)) := by
 subst enl enp
 have hn : t.layers.length ≤ 1000000 ∧ t.past.length ≤ 1000000 := ⟨Nat.le_trans ht.nl (by decide), Nat.le_trans ht.np (by decide)⟩
 have hnl := ht.nl; have hnp := ht.np
 obtain ⟨hm1, hm2⟩ := hm
 refine eo Tryz.func91 fun β => ?_
 refine rg 1 [0] ?_
 refine sr ?_
 refine sx 4 ?_
 refine oal fun b3 => ?_
 refine sx 1 ?_
 refine kq [0, 3] ?_
 refine Run.seq ?_
 refine Run.seq ?_
 refine regionD HM ?_
 refine dx [0, 1, 2, 3, 4, 5, 6, 7] ?_
 refine kd [0, 3, 18] rfl ?_
 refine cnd rfl (fun h1 => ?_) fun h1 => ?_
 refine rg 1 [2] ?_
 refine Run.ret ?_
 have hres : fIssue t m c = .error 21 := if_pos h1; refine ret_out (none, 0, none, 0) (.tmp rfl .nil) trivial (by rw [hres]; rfl) ?_; rw [hres]; exact gv
 refine Run.skip ?_
 refine rg 4 [0, 3, 4, 5] ?_
 refine Run.seq ?_
 refine Run.block ?_
 refine Run.loop (fun mm E L => ∃ (ls : List Ly) (left v : Int) (la : Option Addr) (lc : Nat), mm = issM ls left ∧ issueL ls left v = issueL t.layers m.qty 0 ∧ ls.length ≤ t.layers.length ∧ (∀ (i : Nat) (l : Ly), ls[i]? = some l → l.ok) ∧ i64 left ∧ i64 v ∧ E = [(0, .pointer (some ⟨bx, 0, none⟩)), (3, .pointer (some ⟨b3, 0, none⟩)), (4, I left), (5, I v)] ∧ L = [pt b3 (blk m.c 35), pt bx (blk (XC { t with layers := ls } m c la ls.length lc pa t.past.length pc) 142), own 96 4 la ls.length lc ((ls).flatMap Ly.c), own 98 7 pa t.past.length pc ((t.past).flatMap Pa.c)]) ⟨_, t.layers, m.qty, 0, la, lc, rfl, rfl, Nat.le_refl _, ht.ly, hm1, by decide, rfl, rfl⟩ ?_
 rintro _ _ _ ⟨ls, left, v, la, lc, rfl, hI, hle, hlo, hl64, hv64, rfl, rfl⟩
 refine Run.seq ?_
 refine sr ?_
 refine RunL.cut (t := 31) (v := Bo (decide (0 < left ∧ 0 < (ls.length : Int)))) (kt (ks := [0, 3, 4, 5]) rfl) ?_ ?_
 refine sx 3 ?_
 refine spl 23 rfl (fun g2 => ?_) fun g2 => ?_
 refine sx 8 ?_
 exact RunL.nil ⟨.cons (by first | rfl | (show some (Value.bool _) = some (Value.bool _); rw [decide_eq_false (show ¬ (0 < left ∧ 0 < (ls.length : Int)) by omega)]) | (show some (Value.bool _) = some (Value.bool _); simp_all)) (kt (ks := [0, 3, 4, 5]) rfl), rfl⟩
 refine sx 8 ?_
 exact RunL.nil ⟨.cons (by first | rfl | (show some (Value.bool _) = some (Value.bool _); rw [decide_eq_false (show ¬ (0 < left ∧ 0 < (ls.length : Int)) by omega)]) | (show some (Value.bool _) = some (Value.bool _); simp_all)) (kt (ks := [0, 3, 4, 5]) rfl), rfl⟩
 refine cnd rfl (fun h3 => ?_) fun h3 => ?_
 refine Run.skip ?_
 refine Run.block ?_
 refine sr ?_
 obtain ⟨l, ls, rfl⟩ : ∃ l ls', ls = l :: ls' := (by cases ls with | nil => simp at h3 | cons l ls => exact ⟨l, ls, rfl⟩)
 have hx0 : (l :: ls)[0]? = some l := rfl
 have hlk := hlo 0 l rfl
 have hst := issue_step (l := l) (ls := ls) (v := v) h3.1 hl64 hlk.1
 have hq1 := hlk.1
 refine RunL.ownAddr pk (flat_ne (k := 4) (fun _ => rfl) (by decide) hx0) fun b e hcap => ?_
 subst e
 refine sx 11 ?_
 refine kq [0, 3, 4, 5, 6] ?_
 refine sr ?_
 refine sx 3 ?_
 refine RunL.callX C66 rfl rfl rfl (ac66 bx { t with layers := l :: ls } m c _ _ lc pa _ pc 0 l _ hx0 hlk (by split <;> omega) rfl rfl ⟨Nat.le_trans hle hn.1, hn.2⟩) tks fun ⟨la2, lc2⟩ _ => ?_
 refine RunL.op rfl rfl (OpJ.add rfl rfl ?_)
 refine sx 1 ?_
 refine kq [0, 3, 4, 5, 6] ?_
 refine Run.region ?_
 refine sx 2 ?_
 refine RunL.op rfl rfl (OpJ.sub rfl rfl ?_)
 refine sx 1 ?_
 exact RunL.next (Keep.sub (kt (ks := [0, 3, 4, 5]) rfl)) _ ⟨_, hst.2, _, _, _, _, _, rfl, hst.1.trans hI, Nat.le_trans takeL_len hle, takeL_ok hlo, W_i64 _, W_i64 _, rfl, rfl⟩ gv
 refine Run.exit ?_
 refine Run.seq ?_
 refine regionD HM ?_
 refine dx [0, 1, 2, 3, 4, 5, 6, 7, 8, 9, 10, 11, 12, 13, 14, 15] ?_
 refine RunD.op 16 [false, false, false, false, false, false, false, false, false, false, true, true, true, true, true, true] rfl rfl rfl kr kr (OpJ.buildSlice1 S26 rfl rfl rfl (by decide) (by decide) Z66 rfl fun b66 => ⟨po, ?_⟩)
 refine RunD.op 17 [false, false, false, true, true, true] rfl rfl rfl kr kr (OpJ.append1 (⟨m.seq, m.kind, m.lot, m.qty, v, 0, 0⟩ : Pa) S26 M66 rfl rfl pk pk rfl rfl (by simp [Value.oneCell', Pa.c, Ly.c, Mv.c, Co.c]) rfl (by omega) (by omega) fun a67 c67 => ⟨po, ?_⟩)
 refine dx [18, 19, 20] ?_
 refine RunD.op 21 [false, false, false, false, false, false] rfl rfl rfl kr kr (OpJ.store1 T26 rfl rfl rfl up (by simp) ⟨po, ?_⟩)
 refine kd [0, 3, 5] rfl ?_
 refine rg 15 [] ?_
 refine rg 1 [2] ?_
 refine Run.ret ?_
 have hres : fIssue t m c = .ok ({ t with layers := ls, past := t.past ++ [⟨m.seq, m.kind, m.lot, m.qty, v, 0, 0⟩] }, { c with qty := W (0 - m.qty), value := W (0 - v) }) := (by unfold fIssue; rw [if_neg h1, ← hI, issue_done h3]); refine ret_out (la, lc, a67, c67) (.tmp rfl .nil) trivial (by rw [hres]; rfl) ?_; rw [hres]; simp only [Aft, List.length_set, List.length_append]; exact gv
theorem ac35 (bx : Nat) (t : Sk) (m : Mv) (c : Co) (la : Option Addr) (nl lc : Nat) (pa : Option Addr) (np pc : Nat) (enl : nl = t.layers.length) (enp : np = t.past.length) (ht : t.ok 999999) (hm : m.ok) : AC Tryz.prog 92 ⟨[.pointer (some ⟨bx, 0, none⟩)]⟩ (stars [pt bx (blk (XC t m c la nl lc pa np pc) 142), own 96 4 la nl lc ((t.layers).flatMap Ly.c), own 98 7 pa np pc ((t.past).flatMap Pa.c)]) (Outs (fun _ : Option Addr × Nat × Option Addr × Nat => True) (fun _ => I (errOf (fBack t m c))) (fun x => Aft 142 96 98 bx m (fBack t m c) x)) := by
 subst enl enp
 have hn : t.layers.length ≤ 1000000 ∧ t.past.length ≤ 1000000 := ⟨Nat.le_trans ht.nl (by decide), Nat.le_trans ht.np (by decide)⟩
 have hnl := ht.nl; have hnp := ht.np
 obtain ⟨hm1, hm2⟩ := hm
 refine eo Tryz.func92 fun β => ?_
 refine rg 1 [0] ?_
 refine sr ?_
 refine sx 1 ?_
 refine RunL.call C67 rfl rfl rfl (ac67 bx t m c la _ lc pa _ pc _ rfl rfl hn) tks ?_
 refine sx 5 ?_
 refine kq [0, 3, 4] ?_
 refine Run.seq ?_
 refine rg 2 [0, 3, 4, 12] ?_
 refine cnd rfl (fun h1 => ?_) fun h1 => ?_
 refine sr ?_
 obtain ⟨e, he⟩ := errOf_ne h1
 refine sx 2 ?_
 refine kq [2] ?_
 refine Run.ret ?_
 have hres : fBack t m c = .error e := (by unfold fBack; rw [he]); rw [he]; refine ret_out (none, 0, none, 0) (.tmp rfl .nil) trivial (by rw [hres]; rfl) ?_; rw [hres]; exact gv
 refine Run.skip ?_
 refine Run.seq ?_
 refine regionD HM ?_
 obtain ⟨i, p, hr, hx⟩ := refd_ok (Decidable.not_not.1 h1)
 rw [hr]
 have hi := (List.getElem?_eq_some_iff.1 hx).1
 obtain ⟨hp1, hp2, hp3, hp4⟩ := ht.pa i p hx
 refine RunD.ownAddr pk (flat_ne (k := 7) (fun _ => rfl) (by decide) hx) fun b e hcap => ?_
 subst e
 simp only [okPtr, ptrOf]
 refine dx [0, 1, 2, 3, 4, 5, 6, 7] ?_
 refine tk 8 rfl rfl rfl (DetJ.sub rfl rfl) ?_
 refine dx [9, 10, 11, 12, 13, 14, 15, 16, 17, 18, 19, 20, 21] ?_
 refine tk 22 rfl rfl rfl (DetJ.sub rfl rfl) ?_
 refine RunD.op 23 [false, false, false, true, true, false, false, true, true, false, false, false, true, true, false, false, false, true, true, false, false, true, true] rfl rfl rfl kr kr (OpJ.callRet C68 rfl rfl (ac68 _ _ _ (W_i64 _) hm1 (W_i64 _)) .nil ⟨po, ?_⟩)
 refine dx [24] ?_
 refine kd [0, 3, 5] rfl ?_
 refine Run.seq ?_
 refine regionD HM ?_
 refine dx [0, 1, 2, 3, 4, 5, 6, 7, 8] ?_
 refine tk 9 rfl rfl rfl (DetJ.add rfl rfl) ?_
 refine dx [10, 11] ?_
 refine RunD.op 12 [false, false, false, false, false, false, false, false, false, false, false, false] rfl rfl rfl kr kr (OpJ.storeO (i := i) (u' := sendP p m) T3 rfl rfl rfl hx (fun _ => rfl) (by decide) rfl up ⟨po, ?_⟩)
 refine kd [0, 3, 5] rfl ?_
 refine sr ?_
 have hx1 := set_get hx (sendP p m)
 refine sx 5 ?_
 refine RunL.op rfl rfl (OpJ.add rfl rfl ?_)
 refine sx 2 ?_
 refine RunL.op rfl rfl (OpJ.storeO (i := i) (u' := backP p m) T3 rfl rfl rfl hx1 (fun _ => rfl) (by decide) rfl up ?_)
 rw [List.set_set]
 refine kq [0, 3, 5] ?_
 refine Run.seq ?_
 refine regionD HM ?_
 have hx2 := set_get hx (backP p m)
 refine dx [0, 1, 2, 3, 4, 5, 6, 7, 8, 9, 10, 11, 12, 13, 14, 15, 16] ?_
 refine RunD.op 17 [false, false, false, false, true, true, true, false, false, true, true, false, false, true, true, true, false] rfl rfl rfl kr kr (OpJ.callOuts C65 rfl rfl (ac65 bx { t with past := t.past.set i (backP p m) } m c la t.layers.length lc (some ⟨b, 0, none⟩) t.past.length pc ⟨m.seq, p.lot, m.qty, backV p m⟩ rfl (by simp) (by simpa using hn)) tks fun ⟨la2, lc2⟩ _ => ⟨po, ?_⟩)
 refine kd [0, 5] rfl ?_
 refine rg 16 [] ?_
 refine rg 1 [2] ?_
 refine Run.ret ?_
 have hres : fBack t m c = .ok _ := (by unfold fBack; rw [hr]); refine ret_out (la2, lc2, (some ⟨b, 0, none⟩), pc) (.tmp rfl .nil) trivial (by rw [hres]; rfl) ?_; rw [hres]; simp only [Aft, List.length_set, List.length_append]; exact gv
theorem ac36 (bx : Nat) (t : Sk) (m : Mv) (c : Co) (la : Option Addr) (nl lc : Nat) (pa : Option Addr) (np pc : Nat) (enl : nl = t.layers.length) (enp : np = t.past.length) (ht : t.ok 999999) (hm : m.ok) : AC Tryz.prog 93 ⟨[.pointer (some ⟨bx, 0, none⟩)]⟩ (stars [pt bx (blk (XC t m c la nl lc pa np pc) 142), own 96 4 la nl lc ((t.layers).flatMap Ly.c), own 98 7 pa np pc ((t.past).flatMap Pa.c)]) (Outs (fun _ : Option Addr × Nat × Option Addr × Nat => True) (fun _ => I (errOf (fSend t m c))) (fun x => Aft 142 96 98 bx m (fSend t m c) x)) := by
 subst enl enp
 have hn : t.layers.length ≤ 1000000 ∧ t.past.length ≤ 1000000 := ⟨Nat.le_trans ht.nl (by decide), Nat.le_trans ht.np (by decide)⟩
 have hnl := ht.nl; have hnp := ht.np
 obtain ⟨hm1, hm2⟩ := hm
 refine eo Tryz.func93 fun β => ?_
 refine rg 1 [0] ?_
 refine sr ?_
 refine sx 1 ?_
 refine RunL.call C67 rfl rfl rfl (ac67 bx t m c la _ lc pa _ pc _ rfl rfl hn) tks ?_
 refine sx 5 ?_
 refine kq [0, 3, 4] ?_
 refine Run.seq ?_
 refine rg 2 [0, 3, 4, 13] ?_
 refine cnd rfl (fun h1 => ?_) fun h1 => ?_
 refine sr ?_
 obtain ⟨e, he⟩ := errOf_ne h1
 refine sx 2 ?_
 refine kq [2] ?_
 refine Run.ret ?_
 have hres : fSend t m c = .error e := (by unfold fSend; rw [he]); rw [he]; refine ret_out (none, 0, none, 0) (.tmp rfl .nil) trivial (by rw [hres]; rfl) ?_; rw [hres]; exact gv
 refine Run.skip ?_
 refine sr ?_
 obtain ⟨i, p, hr, hx⟩ := refd_ok (Decidable.not_not.1 h1)
 rw [hr]
 have hi := (List.getElem?_eq_some_iff.1 hx).1
 obtain ⟨hp1, hp2, hp3, hp4⟩ := ht.pa i p hx
 refine RunL.ownAddr pk (flat_ne (k := 7) (fun _ => rfl) (by decide) hx) fun b e hcap => ?_
 subst e
 simp only [okPtr, ptrOf]
 refine sx 6 ?_
 refine RunL.call C69 rfl rfl rfl (ac69 bx t m c la _ lc _ _ pc m.ref rfl rfl hn) tks ?_
 refine sx 1 ?_
 rcases hf : findI (isLy m.ref) t.layers with _ | ⟨j, l⟩
 refine kq [0, 3, 5] ?_
 refine Run.seq ?_
 refine Run.seq ?_
 refine regionD HM ?_
 refine dx [0, 1] ?_
 first | refine RunD.set (congrArg Value.bool (decide_eq_false (show ¬ ((j : Int) < 0) by omega))) ?_ | skip
 refine tk 2 rfl rfl rfl (DetJ.move rfl) ?_
 refine RunD.takeN 3 rfl rfl rfl rfl rfl kr ?_
 refine RunD.takeN 4 rfl rfl rfl rfl rfl kr ?_
 refine RunD.takeN 5 rfl rfl rfl rfl rfl kr ?_
 refine RunD.takeN 6 rfl rfl rfl rfl rfl kr ?_
 refine RunD.takeN 7 rfl rfl rfl rfl rfl kr ?_
 refine RunD.takeN 8 rfl rfl rfl rfl rfl kr ?_
 refine RunD.takeN 9 rfl rfl rfl rfl rfl kr ?_
 refine RunD.takeN 10 rfl rfl rfl rfl rfl kr ?_
 refine RunD.takeN 11 rfl rfl rfl rfl rfl kr ?_
 refine RunD.takeN 12 rfl rfl rfl rfl rfl kr ?_
 refine RunD.takeN 13 rfl rfl rfl rfl rfl kr ?_
 refine RunD.takeN 14 rfl rfl rfl rfl rfl kr ?_
 refine RunD.takeN 15 rfl rfl rfl rfl rfl kr ?_
 refine RunD.takeN 16 rfl rfl rfl rfl rfl kr ?_
 refine RunD.takeN 17 rfl rfl rfl rfl rfl kr ?_
 refine tk 18 rfl rfl rfl (DetJ.pickT rfl rfl) ?_
 refine kd [0, 3, 5, 40] rfl ?_
 refine Run.true rfl ?_
 refine rg 1 [2] ?_
 refine Run.ret ?_
 have hres : fSend t m c = .error 21 := (by unfold fSend; rw [hr]; simp only [hf]); refine ret_out (none, 0, none, 0) (.tmp rfl .nil) trivial (by rw [hres]; rfl) ?_; rw [hres]; exact gv
 obtain ⟨hy, _⟩ := findI_some hf
 have hj := (List.getElem?_eq_some_iff.1 hy).1
 have hly := ht.ly j l hy
 have hl1 := hly.1
 refine RunL.ownAddr pk (flat_ne (k := 4) (fun _ => rfl) (by decide) hy) fun b2 e hcap => ?_
 subst e
 simp only [idxOf]
 refine kq [0, 3, 5] ?_
 refine Run.seq ?_
 refine Run.seq ?_
 refine regionD HM ?_
 refine dx [0, 1] ?_
 first | refine RunD.set (congrArg Value.bool (decide_eq_false (show ¬ ((j : Int) < 0) by omega))) ?_ | skip
 refine tk 2 rfl rfl rfl (DetJ.move rfl) ?_
 refine RunD.takeG 3 rfl rfl rfl rfl rfl kr (DetJ.move rfl) .nil ?_
 refine RunD.takeG 4 rfl rfl rfl rfl rfl kr (DetJ.nilCheck rfl) .nil ?_
 refine RunD.takeG 5 rfl rfl rfl rfl rfl kr (DetJ.fieldAddr F70_0 rfl) .nil ?_
 refine RunD.takeG 6 rfl rfl rfl rfl rfl kr (DetJ.fieldAddr F28_3 rfl) .nil ?_
 first | refine RunD.takeGF 7 rfl rfl rfl rfl kr T25 rfl pk (by rfl) ?_ | refine RunD.takeGO 7 rfl rfl rfl rfl kr T25 rfl pk (by assumption) (by rfl) (by exact fun _ => rfl) ?_
 refine RunD.takeG 8 rfl rfl rfl rfl rfl kr (DetJ.move rfl) .nil ?_
 refine RunD.takeG 9 rfl rfl rfl rfl rfl kr (DetJ.indexAddr S25 rfl rfl (by omega)) .nil ?_
 refine RunD.takeG 10 rfl rfl rfl rfl rfl kr (DetJ.fieldAddr F64_2 rfl) .nil ?_
 first | refine RunD.takeGF 11 rfl rfl rfl rfl kr T3 rfl pk (by rfl) ?_ | refine RunD.takeGO 11 rfl rfl rfl rfl kr T3 rfl pk (by assumption) (by rfl) (by exact fun _ => rfl) ?_
 refine RunD.takeG 12 rfl rfl rfl rfl rfl kr (DetJ.move rfl) .nil ?_
 refine RunD.takeG 13 rfl rfl rfl rfl rfl kr (DetJ.nilCheck rfl) .nil ?_
 refine RunD.takeG 14 rfl rfl rfl rfl rfl kr (DetJ.fieldAddr F70_1 rfl) .nil ?_
 refine RunD.takeG 15 rfl rfl rfl rfl rfl kr (DetJ.fieldAddr F47_4 rfl) .nil ?_
 first | refine RunD.takeGF 16 rfl rfl rfl rfl kr T3 rfl pk (by rfl) ?_ | refine RunD.takeGO 16 rfl rfl rfl rfl kr T3 rfl pk (by assumption) (by rfl) (by exact fun _ => rfl) ?_
 refine RunD.takeG 17 rfl rfl rfl rfl rfl kr (DetJ.lss rfl rfl) .nil ?_
 refine tk 18 rfl rfl rfl (DetJ.pickF rfl rfl) ?_
 refine kd [0, 3, 5, 40] rfl ?_
 refine cnd rfl (fun h2 => ?_) fun h2 => ?_
 refine rg 1 [2] ?_
 refine Run.ret ?_
 have hres : fSend t m c = .error 21 := (by unfold fSend; rw [hr]; simp only [hf]; rw [if_pos (by assumption)]); refine ret_out (none, 0, none, 0) (.tmp rfl .nil) trivial (by rw [hres]; rfl) ?_; rw [hres]; exact gv
 refine Run.skip ?_
 refine Run.seq ?_
 refine regionD HM ?_
 refine dx [0, 1, 2, 3, 4, 5, 6, 7, 8] ?_
 refine tk 9 rfl rfl rfl (DetJ.add rfl rfl) ?_
 refine dx [10, 11] ?_
 refine RunD.op 12 [false, false, false, false, false, false, false, false, false, false, false, false] rfl rfl rfl kr kr (OpJ.storeO (i := i) (u' := sendP p m) T3 rfl rfl rfl hx (fun _ => rfl) (by decide) rfl up ⟨po, ?_⟩)
 refine kd [0, 5] rfl ?_
 refine sr ?_
 refine sx 7 ?_
 refine RunL.callX C66 rfl rfl rfl (ac66 bx { t with past := t.past.set i (sendP p m) } m c _ t.layers.length lc _ t.past.length pc j l m.qty hy hly hm1 rfl (by simp) (by simpa using hn)) tks fun ⟨la2, lc2⟩ _ => ?_
 refine sx 1 ?_
 refine kq [0, 6] ?_
 refine Run.seq ?_
 refine regionD HM ?_
 refine dx [0, 1, 2, 3, 4, 5, 6, 7, 8, 9, 10, 11, 12, 13, 14, 15, 16] ?_
 refine tk 17 rfl rfl rfl (DetJ.sub rfl rfl) ?_
 refine dx [18, 19, 20] ?_
 refine RunD.op 21 [false, false, false, true, false, false, false, true, true, true, true, true, false, false, false, false, false, false, true, true, false] rfl rfl rfl kr kr (OpJ.store1 T3 rfl rfl rfl up (by simp) ⟨po, ?_⟩)
 refine dx [22, 23, 24] ?_
 refine RunD.op 25 [false, false, false, true, true, true, true, false, false, true, false] rfl rfl rfl kr kr (OpJ.store1 T3 rfl rfl rfl up (by simp) ⟨po, ?_⟩)
 refine dx [26, 27, 28] ?_
 refine RunD.op 29 [false, false, false, false, false, false, false, false] rfl rfl rfl kr kr (OpJ.store1 T3 rfl rfl rfl up (by simp) ⟨po, ?_⟩)
 refine kd [] rfl ?_
 refine rg 1 [2] ?_
 refine Run.ret ?_
 have hres : fSend t m c = .ok _ := (by unfold fSend; rw [hr]; simp only [hf]; rw [if_neg (by assumption)]); refine ret_out (la2, lc2, (some ⟨b, 0, none⟩), pc) (.tmp rfl .nil) trivial (by rw [hres]; rfl) ?_; rw [hres]; simp only [Aft, List.length_set, List.length_append]; exact gv
theorem ac37 (bx : Nat) (t : Sk) (m : Mv) (c : Co) (la : Option Addr) (nl lc : Nat) (pa : Option Addr) (np pc : Nat) (enl : nl = t.layers.length) (enp : np = t.past.length) (ht : t.ok 999999) (hm : m.ok) : AC Tryz.prog 94 ⟨[.pointer (some ⟨bx, 0, none⟩)]⟩ (stars [pt bx (blk (XC t m c la nl lc pa np pc) 142), own 96 4 la nl lc ((t.layers).flatMap Ly.c), own 98 7 pa np pc ((t.past).flatMap Pa.c)]) (Outs (fun _ : Option Addr × Nat × Option Addr × Nat => True) (fun _ => I (errOf (fLand t m c))) (fun x => Aft 142 96 98 bx m (fLand t m c) x)) := by
 subst enl enp
 have hn : t.layers.length ≤ 1000000 ∧ t.past.length ≤ 1000000 := ⟨Nat.le_trans ht.nl (by decide), Nat.le_trans ht.np (by decide)⟩
 have hnl := ht.nl; have hnp := ht.np
 obtain ⟨hm1, hm2⟩ := hm
 refine eo Tryz.func94 fun β => ?_
 refine rg 1 [0] ?_
 refine sr ?_
 refine sx 1 ?_
 refine RunL.call C67 rfl rfl rfl (ac67 bx t m c la _ lc pa _ pc _ rfl rfl hn) tks ?_
 refine sx 5 ?_
 refine kq [0, 3, 4] ?_
 refine Run.seq ?_
 refine rg 2 [0, 3, 4, 12] ?_
 refine cnd rfl (fun h1 => ?_) fun h1 => ?_
 refine sr ?_
 obtain ⟨e, he⟩ := errOf_ne h1
 refine sx 2 ?_
 refine kq [2] ?_
 refine Run.ret ?_
 have hres : fLand t m c = .error e := (by unfold fLand; rw [he]); rw [he]; refine ret_out (none, 0, none, 0) (.tmp rfl .nil) trivial (by rw [hres]; rfl) ?_; rw [hres]; exact gv
 refine Run.skip ?_
 refine Run.seq ?_
 refine sr ?_
 obtain ⟨i, p, hr, hx⟩ := refd_ok (Decidable.not_not.1 h1)
 rw [hr]
 have hi := (List.getElem?_eq_some_iff.1 hx).1
 obtain ⟨hp1, hp2, hp3, hp4⟩ := ht.pa i p hx
 refine RunL.ownAddr pk (flat_ne (k := 7) (fun _ => rfl) (by decide) hx) fun b e hcap => ?_
 subst e
 simp only [okPtr, ptrOf]
 refine sx 6 ?_
 refine RunL.call C69 rfl rfl rfl (ac69 bx t m c la _ lc _ _ pc m.ref rfl rfl hn) tks ?_
 refine sx 1 ?_
 rcases hf : findI (isLy m.ref) t.layers with _ | ⟨j, l⟩
 refine kq [0, 3, 5] ?_
 refine sr ?_
 refine sx 2 ?_
 first | refine RunL.set (congrArg Value.bool (decide_eq_true (show (0 : Int) ≤ (j : Int) by omega))) ?_ | skip
 refine kq [0, 3, 5, 22] ?_
 refine Run.false rfl ?_
 refine Run.skip ?_
 refine Run.seq ?_
 refine regionD HM ?_
 refine dx [0, 1, 2, 3, 4, 5, 6, 7, 8, 9, 10] ?_
 refine tk 11 rfl rfl rfl (DetJ.sub rfl rfl) ?_
 refine dx [12, 13, 14] ?_
 refine RunD.op 15 [false, false, false, false, false, false, false, false, false, false, false, false, false, false, false] rfl rfl rfl kr kr (OpJ.store1 T3 rfl rfl rfl up (by simp) ⟨po, ?_⟩)
 refine kd [] rfl ?_
 refine rg 1 [2] ?_
 refine Run.ret ?_
 have hres : fLand t m c = .ok _ := (by unfold fLand; rw [hr]; simp only [hf]; rfl); refine ret_out (la, lc, (some ⟨b, 0, none⟩), pc) (.tmp rfl .nil) trivial (by rw [hres]; rfl) ?_; rw [hres]; simp only [Aft, List.length_set, List.length_append]; exact gv
 obtain ⟨hy, _⟩ := findI_some hf
 have hj := (List.getElem?_eq_some_iff.1 hy).1
 have hly := ht.ly j l hy
 have hl1 := hly.1
 refine RunL.ownAddr pk (flat_ne (k := 4) (fun _ => rfl) (by decide) hy) fun b2 e hcap => ?_
 subst e
 simp only [idxOf]
 refine kq [0, 3, 5] ?_
 refine sr ?_
 refine sx 2 ?_
 first | refine RunL.set (congrArg Value.bool (decide_eq_true (show (0 : Int) ≤ (j : Int) by omega))) ?_ | skip
 refine kq [0, 3, 5, 22] ?_
 refine Run.true rfl ?_
 refine Run.seq ?_
 refine regionD HM ?_
 refine dx [0, 1, 2, 3, 4, 5, 6, 7, 8, 9, 10, 11, 12, 13, 14, 15, 16, 17, 18] ?_
 refine RunD.op 19 [false, false, false, true, false, false, false, true, true, true, true, true, true, false, false, false, true, true, true] rfl rfl rfl kr kr (OpJ.callRet C68 rfl rfl (ac68 _ _ _ hm2 hl1 hp1) .nil ⟨po, ?_⟩)
 refine dx [20, 21, 22] ?_
 refine RunD.op 23 [false, false, false, false, false, false, false, false, false, false, false, false, false] rfl rfl rfl kr kr (OpJ.store1 T3 rfl rfl rfl up (by simp) ⟨po, ?_⟩)
 refine kd [0, 5] rfl ?_
 refine regionD HM ?_
 refine dx [0, 1, 2, 3, 4, 5, 6, 7, 8, 9, 10, 11, 12, 13] ?_
 refine tk 14 rfl rfl rfl (DetJ.add rfl rfl) ?_
 refine dx [15, 16] ?_
 refine RunD.op 17 [false, false, false, false, false, false, false, false, false, false, false, false, false, false, false, false, false] rfl rfl rfl kr kr (OpJ.storeO (i := j) (u' := { l with value := W (l.value + partN m.cost l.qty p.qty) }) T3 rfl rfl rfl hy (fun _ => rfl) (by decide) rfl up ⟨po, ?_⟩)
 refine kd [0] rfl ?_
 refine Run.seq ?_
 refine regionD HM ?_
 refine dx [0, 1, 2, 3, 4, 5, 6, 7, 8, 9, 10] ?_
 refine tk 11 rfl rfl rfl (DetJ.sub rfl rfl) ?_
 refine dx [12, 13, 14] ?_
 refine RunD.op 15 [false, false, false, false, false, false, false, false, false, false, false, false, false, false, false] rfl rfl rfl kr kr (OpJ.store1 T3 rfl rfl rfl up (by simp) ⟨po, ?_⟩)
 refine kd [] rfl ?_
 refine rg 1 [2] ?_
 refine Run.ret ?_
 have hres : fLand t m c = .ok _ := (by unfold fLand; rw [hr]; simp only [hf]; rfl); refine ret_out ((some ⟨b2, 0, none⟩), lc, (some ⟨b, 0, none⟩), pc) (.tmp rfl .nil) trivial (by rw [hres]; rfl) ?_; rw [hres]; simp only [Aft, List.length_set, List.length_append]; exact gv
theorem ac38 (bx : Nat) (t : Sk) (m : Mv) (c : Co) (la : Option Addr) (nl lc : Nat) (pa : Option Addr) (np pc : Nat) (enl : nl = t.layers.length) (enp : np = t.past.length) (hn : t.layers.length ≤ 1000000 ∧ t.past.length ≤ 1000000) : AC Tryz.prog 95 ⟨[.pointer (some ⟨bx, 0, none⟩)]⟩ (stars [pt bx (blk (XC t m c la nl lc pa np pc) 142), own 96 4 la nl lc ((t.layers).flatMap Ly.c)]) (Ret (Bo (overB t c)) [pt bx (blk (XC t m c la nl lc pa np pc) 142), own 96 4 la nl lc ((t.layers).flatMap Ly.c)]) := by
 subst enl enp
 have hnl := hn.1; have hnp := hn.2
 refine eo Tryz.func95 fun β => ?_
 refine rg 1 [0] ?_
 refine Run.seq ?_
 refine rg 7 [0, 9, 10, 11] ?_
 refine Run.block ?_
 refine Run.loop (fun mm E L => ∃ i : Nat, mm = t.layers.length - i ∧ i ≤ t.layers.length ∧ (∀ j y, j < i → t.layers[j]? = some y → farB y.value = false) ∧ E = [(0, .pointer (some ⟨bx, 0, none⟩)), (9, .slice la t.layers.length lc), (10, I t.layers.length), (11, I i)] ∧ L = [pt bx (blk (XC t m c la t.layers.length lc pa t.past.length pc) 142), own 96 4 la t.layers.length lc ((t.layers).flatMap Ly.c)]) ⟨_, 0, rfl, Nat.zero_le _, fun _ _ h => by omega, rfl, rfl⟩ ?_
 rintro _ _ _ ⟨i, rfl, hi, hI0, rfl, rfl⟩
 refine rg 1 [0, 9, 10, 11, 12] ?_
 refine Run.seq ?_
 refine cnd rfl (fun h1 => ?_) fun h1 => ?_
 refine Run.skip ?_
 refine Run.seq ?_
 refine Run.block ?_
 refine sr ?_
 obtain ⟨x, hx⟩ := get_ex (xs := t.layers) (i := i) (by omega)
 refine RunL.ownAddr pk (flat_ne (k := 4) (fun _ => rfl) (by decide) hx) fun b e hcap => ?_
 subst e
 refine sx 2 ?_
 refine oal fun b4 => ?_
 refine sx 1 ?_
 refine kq [0, 4, 9, 10, 11] ?_
 refine sr ?_
 refine sx 2 ?_
 refine RunL.call C70 rfl rfl rfl (ac70 _) .nil ?_
 refine kq [0, 9, 10, 11, 17] ?_
 refine cnd rfl (fun h2 => ?_) fun h2 => ?_
 refine rg 1 [2] ?_
 exact .ret (ret_one (.tmp rfl .nil) (congrArg Bo (overB_far hx h2).symm) gv)
 refine Run.skip ?_
 refine Run.region ?_
 refine sx 2 ?_
 exact RunL.next (Keep.sub (kt (ks := [0, 9, 10, 11]) rfl)) _ ⟨_, by omega, i + 1, rfl, by omega, (fun j y hj hy => (by rcases Nat.lt_succ_iff_lt_or_eq.1 hj with h | rfl; exact hI0 j y h hy; rw [hx] at hy; cases hy; exact h2)), rfl, rfl⟩ gv
 refine Run.exit ?_
 refine sr ?_
 refine sx 7 ?_
 refine spl 25 rfl (fun g3 => ?_) fun g3 => ?_
 refine sx 16 ?_
 refine kq [2] ?_
 refine Run.ret ?_
 exact ret_one (.tmp rfl .nil) (congrArg Bo (by rw [overB_rest (fun j y hj => hI0 j y (by omega))]; simp [*])) gv
 refine sx 5 ?_
 refine RunL.callG C70 rfl rfl rfl rfl rfl (ac70 _) .nil ?_
 refine sx 2 ?_
 refine spl 33 rfl (fun g4 => ?_) fun g4 => ?_
 refine sx 8 ?_
 refine kq [2] ?_
 refine Run.ret ?_
 exact ret_one (.tmp rfl .nil) (congrArg Bo (by rw [overB_rest (fun j y hj => hI0 j y (by omega))]; simp [*])) gv
 refine sx 5 ?_
 refine RunL.callG C70 rfl rfl rfl rfl rfl (ac70 _) .nil ?_
 refine sx 2 ?_
 refine kq [2] ?_
 refine Run.ret ?_
 exact ret_one (.tmp rfl .nil) (congrArg Bo (by rw [overB_rest (fun j y hj => hI0 j y (by omega))]; simp [*])) gv
theorem ac32 : AC Tryz.prog 89 ⟨[]⟩ (stars []) (Ret (I 10) []) := by
 refine eo Tryz.func89 fun β => ?_
 refine rg 1 [] ?_
 refine rg 1 [0] ?_
 exact .ret (ret_one (.tmp rfl .nil) (by simp [tup, *]) gv)
end
end Go.Proofs.YtcpghpifbgpkjaaGreatDoor

namespace Go.Proofs.YtcpghpifbgpkjaaGreatDoor
open Go Go.SL Go.Proofs
theorem acd33 (bx : Nat) (t : Sk) (m : Mv) (c : Co) (la : Option Addr) (nl lc : Nat) (pa : Option Addr) (np pc : Nat) (enl : nl = t.layers.length) (enp : np = t.past.length) (ht : t.ok 999999) (hm : m.ok) (hk : m.kind = 1) : AC Tryz.prog 90 ⟨[.pointer (some ⟨bx, 0, none⟩)]⟩ (stars [pt bx (blk (XC t m c la nl lc pa np pc) 142), own 96 4 la nl lc ((t.layers).flatMap Ly.c), own 98 7 pa np pc ((t.past).flatMap Pa.c)]) (Outs (fun _ : Option Addr × Nat × Option Addr × Nat => True) (fun _ => I (errOf (fDo t m c))) (fun x => Aft 142 96 98 bx m (fDo t m c) x)) := by
  rw [fDo_1 hk]; exact ac33 bx t m c la nl lc pa np pc enl enp ht hm
theorem acd34 (bx : Nat) (t : Sk) (m : Mv) (c : Co) (la : Option Addr) (nl lc : Nat) (pa : Option Addr) (np pc : Nat) (enl : nl = t.layers.length) (enp : np = t.past.length) (ht : t.ok 999999) (hm : m.ok) (hk : m.kind = 2) : AC Tryz.prog 91 ⟨[.pointer (some ⟨bx, 0, none⟩)]⟩ (stars [pt bx (blk (XC t m c la nl lc pa np pc) 142), own 96 4 la nl lc ((t.layers).flatMap Ly.c), own 98 7 pa np pc ((t.past).flatMap Pa.c)]) (Outs (fun _ : Option Addr × Nat × Option Addr × Nat => True) (fun _ => I (errOf (fDo t m c))) (fun x => Aft 142 96 98 bx m (fDo t m c) x)) := by
  rw [fDo_2 hk]; exact ac34 bx t m c la nl lc pa np pc enl enp ht hm
theorem acd35 (bx : Nat) (t : Sk) (m : Mv) (c : Co) (la : Option Addr) (nl lc : Nat) (pa : Option Addr) (np pc : Nat) (enl : nl = t.layers.length) (enp : np = t.past.length) (ht : t.ok 999999) (hm : m.ok) (hk : m.kind = 3) : AC Tryz.prog 92 ⟨[.pointer (some ⟨bx, 0, none⟩)]⟩ (stars [pt bx (blk (XC t m c la nl lc pa np pc) 142), own 96 4 la nl lc ((t.layers).flatMap Ly.c), own 98 7 pa np pc ((t.past).flatMap Pa.c)]) (Outs (fun _ : Option Addr × Nat × Option Addr × Nat => True) (fun _ => I (errOf (fDo t m c))) (fun x => Aft 142 96 98 bx m (fDo t m c) x)) := by
  rw [fDo_3 hk]; exact ac35 bx t m c la nl lc pa np pc enl enp ht hm
theorem acd36 (bx : Nat) (t : Sk) (m : Mv) (c : Co) (la : Option Addr) (nl lc : Nat) (pa : Option Addr) (np pc : Nat) (enl : nl = t.layers.length) (enp : np = t.past.length) (ht : t.ok 999999) (hm : m.ok) (hk : m.kind = 4) : AC Tryz.prog 93 ⟨[.pointer (some ⟨bx, 0, none⟩)]⟩ (stars [pt bx (blk (XC t m c la nl lc pa np pc) 142), own 96 4 la nl lc ((t.layers).flatMap Ly.c), own 98 7 pa np pc ((t.past).flatMap Pa.c)]) (Outs (fun _ : Option Addr × Nat × Option Addr × Nat => True) (fun _ => I (errOf (fDo t m c))) (fun x => Aft 142 96 98 bx m (fDo t m c) x)) := by
  rw [fDo_4 hk]; exact ac36 bx t m c la nl lc pa np pc enl enp ht hm
theorem acd37 (bx : Nat) (t : Sk) (m : Mv) (c : Co) (la : Option Addr) (nl lc : Nat) (pa : Option Addr) (np pc : Nat) (enl : nl = t.layers.length) (enp : np = t.past.length) (ht : t.ok 999999) (hm : m.ok) (hk : m.kind = 5) : AC Tryz.prog 94 ⟨[.pointer (some ⟨bx, 0, none⟩)]⟩ (stars [pt bx (blk (XC t m c la nl lc pa np pc) 142), own 96 4 la nl lc ((t.layers).flatMap Ly.c), own 98 7 pa np pc ((t.past).flatMap Pa.c)]) (Outs (fun _ : Option Addr × Nat × Option Addr × Nat => True) (fun _ => I (errOf (fDo t m c))) (fun x => Aft 142 96 98 bx m (fDo t m c) x)) := by
  rw [fDo_5 hk]; exact ac37 bx t m c la nl lc pa np pc enl enp ht hm
theorem acd32 (A : HP) (t : Sk) (m : Mv) (c : Co) (hk : ¬ m.kind = 1 ∧ ¬ m.kind = 2 ∧ ¬ m.kind = 3 ∧ ¬ m.kind = 4 ∧ ¬ m.kind = 5) : AC Tryz.prog 89 ⟨[]⟩ A (Outs (fun _ : Option Addr × Nat × Option Addr × Nat => True) (fun _ => I (errOf (fDo t m c))) (fun x => Aft 142 96 98 0 m (fDo t m c) x)) := by
  rw [fDo_0 hk]; exact AC.drop ac32 fun r h hh => ⟨(none, 0, none, 0), ⟨trivial, hh.1⟩, hh.2⟩
section
attribute [local irreducible] OpJ RunL Run RunD DetJ pt own star Rd RdS
theorem ac20 (s : Sk) (m : Mv) (la : Option Addr) (lc : Nat) (pa : Option Addr) (pc : Nat) (RL RP : HP) (hs : s.ok 999999) (hm : m.ok) (hRL : RdS RL la (s.layers.flatMap Ly.c)) (hRP : RdS RP pa (s.past.flatMap Pa.c)) (R0 : HP) (hR0 : Rd R0 ⟨0, 0, none⟩ lensC) : AC Tryz.prog 72 ⟨[.agg ⟨s.c la lc pa pc⟩, .agg ⟨m.c⟩]⟩ (stars [RL, RP, R0]) (Outs (fun _ : Option Addr × Nat × Option Addr × Nat => True) (fun x => StV (fStep s m) x) (fun x => StB 96 98 (fStep s m) x ++ [RL, RP, R0])) := by
 have hn : s.layers.length ≤ 1000000 ∧ s.past.length ≤ 1000000 := ⟨Nat.le_trans hs.nl (by decide), Nat.le_trans hs.np (by decide)⟩
 refine eo Tryz.func72 fun β => ?_
 refine sr ?_
 refine obx rfl fun b2 => ?_
 refine obx rfl fun b3 => ?_
 refine oal fun b4 => ?_
 refine oal fun b5 => ?_
 refine sx 1 ?_
 refine kq [2, 3, 4, 5] ?_
 refine Run.seq ?_
 refine regionD HM ?_
 refine dx [0, 2, 3, 4, 5] ?_
 refine RunD.op 1 [true, true, true, true, false] rfl rfl rfl kr kr (OpJ.callOuts C29 rfl rfl (ac29 s la lc pa pc RL RP ⟨Nat.le_trans hs.nl (by decide), Nat.le_trans hs.np (by decide), hs.ly, hs.pa, hs.q, hs.v, hs.pr⟩ hRL hRP) tks fun ⟨bl, bp⟩ _ => ⟨po, ?_⟩)
 refine dx [6] ?_
 refine RunD.op 7 [false, false, false, true, false] rfl rfl rfl kr kr (OpJ.boxA rfl fun b18 => ⟨po, ?_⟩)
 refine dx [8] ?_
 refine kd [3, 4, 5, 7] rfl ?_
 refine Run.seq ?_
 refine sr ?_
 refine sx 1 ?_
 refine RunL.call C30 rfl rfl rfl (ac30 _ _ hR0) tks ?_
 refine sx 1 ?_
 refine kq [3, 4, 5, 7, 8] ?_
 refine rg 2 [3, 4, 5, 7, 8, 22] ?_
 refine cnd rfl (fun h1 => ?_) fun h1 => ?_
 refine rg 6 [4, 5, 6] ?_
 refine Run.ret ?_
 have hres2 : fStep s m = .error m.one := (by unfold fStep; rw [if_pos h1]); refine ret_out (none, 0, none, 0) (.cellA T28 rfl pk (by rfl) (.cellA T43 rfl pk (by rfl) (.tmp rfl .nil))) trivial (by rw [hres2]; rfl) ?_; rw [hres2]; exact gv
 refine Run.skip ?_
 refine Run.seq ?_
 refine sr ?_
 refine sx 3 ?_
 refine RunL.call C31 rfl rfl rfl (ac31 b18 s m ⟨m.seq, 0, 0, 0⟩ _ _ _ _ _ _ 0 m.seq rfl rfl hn) tks ?_
 refine sx 1 ?_
 refine kq [3, 4, 5, 7, 30] ?_
 refine cnd rfl (fun h2 => ?_) fun h2 => ?_
 refine rg 5 [4, 5, 6] ?_
 refine Run.ret ?_
 have hres2 : fStep s m = .error 8 := (by unfold fStep; rw [if_neg h1, if_pos (by rw [← ptrOf_isSome (a := ⟨bp, 0, none⟩) (k := 7)]; exact h2)]); refine ret_out (none, 0, none, 0) (.cellA T28 rfl pk (by rfl) (.cellA T43 rfl pk (by rfl) (.tmp rfl .nil))) trivial (by rw [hres2]; rfl) ?_; rw [hres2]; exact gv
 refine Run.skip ?_
 refine rg 1 [3, 4, 5, 7, 9] ?_
 refine Run.seq ?_
 refine rg 2 [4, 5, 7, 9, 34] ?_
 refine Run.block ?_
 refine rg 2 [4, 5, 7, 9, 34, 35] ?_
 refine cnd rfl (fun h3 => ?_) fun h3 => ?_
 refine Run.region ?_
 refine sx 3 ?_
 refine kq [4, 5, 7, 9] ?_
 refine Run.seq ?_
 refine sr ?_
 refine sx 1 ?_
 refine RunL.callX C33 rfl rfl rfl (acd33 b18 s m ⟨m.seq, 0, 0, 0⟩ _ _ _ _ _ _ rfl rfl hs hm (by assumption)) tks fun ⟨la2, lc2, pa2, pc2⟩ _ => ?_
 rcases hres : fDo s m ⟨m.seq, 0, 0, 0⟩ with e | ⟨t, c⟩
 refine sx 1 ?_
 refine kq [4, 5, 7, 10] ?_
 refine sr ?_
 refine sx 2 ?_
 first | refine RunL.set (congrArg Value.bool (decide_eq_true (show errOf (Except.error _) ≠ 0 from fDo_err hres))) ?_ | skip
 refine kq [4, 5, 7, 10, 58] ?_
 refine Run.true rfl ?_
 refine rg 6 [4, 5, 6] ?_
 refine Run.ret ?_
 have hres2 : fStep s m = .error e := (by unfold fStep; rw [if_neg h1, if_neg (by rw [← ptrOf_isSome (a := ⟨bp, 0, none⟩) (k := 7)]; simp [h2]), hres]); refine ret_out (none, 0, none, 0) (.cellA T28 rfl pk (by rfl) (.cellA T43 rfl pk (by rfl) (.tmp rfl .nil))) trivial (by rw [hres2]; rfl) ?_; rw [hres2]; exact gv
 have hto := fDo_ok hs hm hres
 have hnt : (summed t c).layers.length ≤ 1000000 ∧ (summed t c).past.length ≤ 1000000 := ⟨hto.nl, hto.np⟩
 refine sx 1 ?_
 refine kq [4, 5, 7, 10] ?_
 refine sr ?_
 refine sx 2 ?_
 first | refine RunL.set (congrArg Value.bool (decide_eq_true (show errOf (Except.error _) ≠ 0 from fDo_err hres))) ?_ | skip
 refine kq [4, 5, 7, 10, 58] ?_
 refine Run.false rfl ?_
 refine Run.skip ?_
 refine Run.seq ?_
 refine regionD HM ?_
 refine dx [0, 1, 2, 3, 4, 5, 6, 7, 8, 9] ?_
 refine tk 10 rfl rfl rfl (DetJ.add rfl rfl) ?_
 refine dx [11, 12, 13] ?_
 refine RunD.op 14 [false, false, false, false, false, false, false, false, false, false, false, false, false, false] rfl rfl rfl kr kr (OpJ.store1 T3 rfl rfl rfl up (by simp) ⟨po, ?_⟩)
 refine kd [4, 5, 7] rfl ?_
 refine Run.seq ?_
 refine regionD HM ?_
 refine dx [0, 1, 2, 3, 4, 5, 6, 7, 8, 9] ?_
 refine tk 10 rfl rfl rfl (DetJ.add rfl rfl) ?_
 refine dx [11, 12, 13] ?_
 refine RunD.op 14 [false, false, false, false, false, false, false, false, false, false, false, false, false, false] rfl rfl rfl kr kr (OpJ.store1 T3 rfl rfl rfl up (by simp) ⟨po, ?_⟩)
 refine kd [4, 5, 7] rfl ?_
 refine Run.seq ?_
 refine sr ?_
 refine sx 1 ?_
 refine RunL.call C38 rfl rfl rfl (ac38 b18 (summed t c) m c _ _ _ _ _ _ rfl rfl hnt) tks ?_
 refine kq [4, 5, 7, 91] ?_
 refine cnd rfl (fun h4 => ?_) fun h4 => ?_
 refine rg 5 [4, 5, 6] ?_
 refine Run.ret ?_
 have hres2 : fStep s m = .error 4 := (by unfold fStep; rw [if_neg h1, if_neg (by rw [← ptrOf_isSome (a := ⟨bp, 0, none⟩) (k := 7)]; simp [h2]), hres]; exact if_pos (by assumption)); refine ret_out (none, 0, none, 0) (.cellA T28 rfl pk (by rfl) (.cellA T43 rfl pk (by rfl) (.tmp rfl .nil))) trivial (by rw [hres2]; rfl) ?_; rw [hres2]; exact gv
 refine Run.skip ?_
 refine Run.seq ?_
 refine regionD HM ?_
 refine dx [0, 1, 2, 3, 4, 5, 6, 7] ?_
 refine dsw 8 [true, true, true, true, false, false, false, false] ?_
 refine dsw 9 [false, false, false, false] ?_
 refine dx [10] ?_
 refine kd [4, 5, 6] rfl ?_
 refine Run.ret ?_
 have hres2 : fStep s m = .ok (summed t c, c) := (by unfold fStep; rw [if_neg h1, if_neg (by rw [← ptrOf_isSome (a := ⟨bp, 0, none⟩) (k := 7)]; simp [h2]), hres]; exact if_neg (by simp only [*]; decide)); refine ret_out (la2, lc2, pa2, pc2) (.cellA T28 rfl pk (by rfl) (.cellA T43 rfl pk (by rfl) (.tmp rfl .nil))) trivial (by rw [hres2]; rfl) ?_; rw [hres2]; exact gv
 refine rg 2 [4, 5, 7, 9, 34, 39] ?_
 refine cnd rfl (fun h5 => ?_) fun h5 => ?_
 refine Run.region ?_
 refine sx 3 ?_
 refine kq [4, 5, 7, 9] ?_
 refine Run.seq ?_
 refine sr ?_
 refine sx 1 ?_
 refine RunL.callX C34 rfl rfl rfl (acd34 b18 s m ⟨m.seq, 0, 0, 0⟩ _ _ _ _ _ _ rfl rfl hs hm (by assumption)) tks fun ⟨la2, lc2, pa2, pc2⟩ _ => ?_
 rcases hres : fDo s m ⟨m.seq, 0, 0, 0⟩ with e | ⟨t, c⟩
 refine sx 1 ?_
 refine kq [4, 5, 7, 10] ?_
 refine sr ?_
 refine sx 2 ?_
 first | refine RunL.set (congrArg Value.bool (decide_eq_true (show errOf (Except.error _) ≠ 0 from fDo_err hres))) ?_ | skip
 refine kq [4, 5, 7, 10, 58] ?_
 refine Run.true rfl ?_
 refine rg 6 [4, 5, 6] ?_
 refine Run.ret ?_
 have hres2 : fStep s m = .error e := (by unfold fStep; rw [if_neg h1, if_neg (by rw [← ptrOf_isSome (a := ⟨bp, 0, none⟩) (k := 7)]; simp [h2]), hres]); refine ret_out (none, 0, none, 0) (.cellA T28 rfl pk (by rfl) (.cellA T43 rfl pk (by rfl) (.tmp rfl .nil))) trivial (by rw [hres2]; rfl) ?_; rw [hres2]; exact gv
 have hto := fDo_ok hs hm hres
 have hnt : (summed t c).layers.length ≤ 1000000 ∧ (summed t c).past.length ≤ 1000000 := ⟨hto.nl, hto.np⟩
 refine sx 1 ?_
 refine kq [4, 5, 7, 10] ?_
 refine sr ?_
 refine sx 2 ?_
 first | refine RunL.set (congrArg Value.bool (decide_eq_true (show errOf (Except.error _) ≠ 0 from fDo_err hres))) ?_ | skip
 refine kq [4, 5, 7, 10, 58] ?_
 refine Run.false rfl ?_
 refine Run.skip ?_
 refine Run.seq ?_
 refine regionD HM ?_
 refine dx [0, 1, 2, 3, 4, 5, 6, 7, 8, 9] ?_
 refine tk 10 rfl rfl rfl (DetJ.add rfl rfl) ?_
 refine dx [11, 12, 13] ?_
 refine RunD.op 14 [false, false, false, false, false, false, false, false, false, false, false, false, false, false] rfl rfl rfl kr kr (OpJ.store1 T3 rfl rfl rfl up (by simp) ⟨po, ?_⟩)
 refine kd [4, 5, 7] rfl ?_
 refine Run.seq ?_
 refine regionD HM ?_
 refine dx [0, 1, 2, 3, 4, 5, 6, 7, 8, 9] ?_
 refine tk 10 rfl rfl rfl (DetJ.add rfl rfl) ?_
 refine dx [11, 12, 13] ?_
 refine RunD.op 14 [false, false, false, false, false, false, false, false, false, false, false, false, false, false] rfl rfl rfl kr kr (OpJ.store1 T3 rfl rfl rfl up (by simp) ⟨po, ?_⟩)
 refine kd [4, 5, 7] rfl ?_
 refine Run.seq ?_
 refine sr ?_
 refine sx 1 ?_
 refine RunL.call C38 rfl rfl rfl (ac38 b18 (summed t c) m c _ _ _ _ _ _ rfl rfl hnt) tks ?_
 refine kq [4, 5, 7, 91] ?_
 refine cnd rfl (fun h6 => ?_) fun h6 => ?_
 refine rg 5 [4, 5, 6] ?_
 refine Run.ret ?_
 have hres2 : fStep s m = .error 4 := (by unfold fStep; rw [if_neg h1, if_neg (by rw [← ptrOf_isSome (a := ⟨bp, 0, none⟩) (k := 7)]; simp [h2]), hres]; exact if_pos (by assumption)); refine ret_out (none, 0, none, 0) (.cellA T28 rfl pk (by rfl) (.cellA T43 rfl pk (by rfl) (.tmp rfl .nil))) trivial (by rw [hres2]; rfl) ?_; rw [hres2]; exact gv
 refine Run.skip ?_
 refine Run.seq ?_
 refine regionD HM ?_
 refine dx [0, 1, 2, 3, 4, 5, 6, 7] ?_
 refine dsw 8 [true, true, true, true, false, false, false, false] ?_
 refine dsw 9 [false, false, false, false] ?_
 refine dx [10] ?_
 refine kd [4, 5, 6] rfl ?_
 refine Run.ret ?_
 have hres2 : fStep s m = .ok (summed t c, c) := (by unfold fStep; rw [if_neg h1, if_neg (by rw [← ptrOf_isSome (a := ⟨bp, 0, none⟩) (k := 7)]; simp [h2]), hres]; exact if_neg (by simp only [*]; decide)); refine ret_out (la2, lc2, pa2, pc2) (.cellA T28 rfl pk (by rfl) (.cellA T43 rfl pk (by rfl) (.tmp rfl .nil))) trivial (by rw [hres2]; rfl) ?_; rw [hres2]; exact gv
 refine rg 2 [4, 5, 7, 9, 34, 43] ?_
 refine cnd rfl (fun h7 => ?_) fun h7 => ?_
 refine Run.region ?_
 refine sx 3 ?_
 refine kq [4, 5, 7, 9] ?_
 refine Run.seq ?_
 refine sr ?_
 refine sx 1 ?_
 refine RunL.callX C35 rfl rfl rfl (acd35 b18 s m ⟨m.seq, 0, 0, 0⟩ _ _ _ _ _ _ rfl rfl hs hm (by assumption)) tks fun ⟨la2, lc2, pa2, pc2⟩ _ => ?_
 rcases hres : fDo s m ⟨m.seq, 0, 0, 0⟩ with e | ⟨t, c⟩
 refine sx 1 ?_
 refine kq [4, 5, 7, 10] ?_
 refine sr ?_
 refine sx 2 ?_
 first | refine RunL.set (congrArg Value.bool (decide_eq_true (show errOf (Except.error _) ≠ 0 from fDo_err hres))) ?_ | skip
 refine kq [4, 5, 7, 10, 58] ?_
 refine Run.true rfl ?_
 refine rg 6 [4, 5, 6] ?_
 refine Run.ret ?_
 have hres2 : fStep s m = .error e := (by unfold fStep; rw [if_neg h1, if_neg (by rw [← ptrOf_isSome (a := ⟨bp, 0, none⟩) (k := 7)]; simp [h2]), hres]); refine ret_out (none, 0, none, 0) (.cellA T28 rfl pk (by rfl) (.cellA T43 rfl pk (by rfl) (.tmp rfl .nil))) trivial (by rw [hres2]; rfl) ?_; rw [hres2]; exact gv
 have hto := fDo_ok hs hm hres
 have hnt : (summed t c).layers.length ≤ 1000000 ∧ (summed t c).past.length ≤ 1000000 := ⟨hto.nl, hto.np⟩
 refine sx 1 ?_
 refine kq [4, 5, 7, 10] ?_
 refine sr ?_
 refine sx 2 ?_
 first | refine RunL.set (congrArg Value.bool (decide_eq_true (show errOf (Except.error _) ≠ 0 from fDo_err hres))) ?_ | skip
 refine kq [4, 5, 7, 10, 58] ?_
 refine Run.false rfl ?_
 refine Run.skip ?_
 refine Run.seq ?_
 refine regionD HM ?_
 refine dx [0, 1, 2, 3, 4, 5, 6, 7, 8, 9] ?_
 refine tk 10 rfl rfl rfl (DetJ.add rfl rfl) ?_
 refine dx [11, 12, 13] ?_
 refine RunD.op 14 [false, false, false, false, false, false, false, false, false, false, false, false, false, false] rfl rfl rfl kr kr (OpJ.store1 T3 rfl rfl rfl up (by simp) ⟨po, ?_⟩)
 refine kd [4, 5, 7] rfl ?_
 refine Run.seq ?_
 refine regionD HM ?_
 refine dx [0, 1, 2, 3, 4, 5, 6, 7, 8, 9] ?_
 refine tk 10 rfl rfl rfl (DetJ.add rfl rfl) ?_
 refine dx [11, 12, 13] ?_
 refine RunD.op 14 [false, false, false, false, false, false, false, false, false, false, false, false, false, false] rfl rfl rfl kr kr (OpJ.store1 T3 rfl rfl rfl up (by simp) ⟨po, ?_⟩)
 refine kd [4, 5, 7] rfl ?_
 refine Run.seq ?_
 refine sr ?_
 refine sx 1 ?_
 refine RunL.call C38 rfl rfl rfl (ac38 b18 (summed t c) m c _ _ _ _ _ _ rfl rfl hnt) tks ?_
 refine kq [4, 5, 7, 91] ?_
 refine cnd rfl (fun h8 => ?_) fun h8 => ?_
 refine rg 5 [4, 5, 6] ?_
 refine Run.ret ?_
 have hres2 : fStep s m = .error 4 := (by unfold fStep; rw [if_neg h1, if_neg (by rw [← ptrOf_isSome (a := ⟨bp, 0, none⟩) (k := 7)]; simp [h2]), hres]; exact if_pos (by assumption)); refine ret_out (none, 0, none, 0) (.cellA T28 rfl pk (by rfl) (.cellA T43 rfl pk (by rfl) (.tmp rfl .nil))) trivial (by rw [hres2]; rfl) ?_; rw [hres2]; exact gv
 refine Run.skip ?_
 refine Run.seq ?_
 refine regionD HM ?_
 refine dx [0, 1, 2, 3, 4, 5, 6, 7] ?_
 refine dsw 8 [true, true, true, true, false, false, false, false] ?_
 refine dsw 9 [false, false, false, false] ?_
 refine dx [10] ?_
 refine kd [4, 5, 6] rfl ?_
 refine Run.ret ?_
 have hres2 : fStep s m = .ok (summed t c, c) := (by unfold fStep; rw [if_neg h1, if_neg (by rw [← ptrOf_isSome (a := ⟨bp, 0, none⟩) (k := 7)]; simp [h2]), hres]; exact if_neg (by simp only [*]; decide)); refine ret_out (la2, lc2, pa2, pc2) (.cellA T28 rfl pk (by rfl) (.cellA T43 rfl pk (by rfl) (.tmp rfl .nil))) trivial (by rw [hres2]; rfl) ?_; rw [hres2]; exact gv
 refine rg 2 [4, 5, 7, 9, 34, 47] ?_
 refine cnd rfl (fun h9 => ?_) fun h9 => ?_
 refine Run.region ?_
 refine sx 3 ?_
 refine kq [4, 5, 7, 9] ?_
 refine Run.seq ?_
 refine sr ?_
 refine sx 1 ?_
 refine RunL.callX C36 rfl rfl rfl (acd36 b18 s m ⟨m.seq, 0, 0, 0⟩ _ _ _ _ _ _ rfl rfl hs hm (by assumption)) tks fun ⟨la2, lc2, pa2, pc2⟩ _ => ?_
 rcases hres : fDo s m ⟨m.seq, 0, 0, 0⟩ with e | ⟨t, c⟩
 refine sx 1 ?_
 refine kq [4, 5, 7, 10] ?_
 refine sr ?_
 refine sx 2 ?_
 first | refine RunL.set (congrArg Value.bool (decide_eq_true (show errOf (Except.error _) ≠ 0 from fDo_err hres))) ?_ | skip
 refine kq [4, 5, 7, 10, 58] ?_
 refine Run.true rfl ?_
 refine rg 6 [4, 5, 6] ?_
 refine Run.ret ?_
 have hres2 : fStep s m = .error e := (by unfold fStep; rw [if_neg h1, if_neg (by rw [← ptrOf_isSome (a := ⟨bp, 0, none⟩) (k := 7)]; simp [h2]), hres]); refine ret_out (none, 0, none, 0) (.cellA T28 rfl pk (by rfl) (.cellA T43 rfl pk (by rfl) (.tmp rfl .nil))) trivial (by rw [hres2]; rfl) ?_; rw [hres2]; exact gv
 have hto := fDo_ok hs hm hres
 have hnt : (summed t c).layers.length ≤ 1000000 ∧ (summed t c).past.length ≤ 1000000 := ⟨hto.nl, hto.np⟩
 refine sx 1 ?_
 refine kq [4, 5, 7, 10] ?_
 refine sr ?_
 refine sx 2 ?_
 first | refine RunL.set (congrArg Value.bool (decide_eq_true (show errOf (Except.error _) ≠ 0 from fDo_err hres))) ?_ | skip
 refine kq [4, 5, 7, 10, 58] ?_
 refine Run.false rfl ?_
 refine Run.skip ?_
 refine Run.seq ?_
 refine regionD HM ?_
 refine dx [0, 1, 2, 3, 4, 5, 6, 7, 8, 9] ?_
 refine tk 10 rfl rfl rfl (DetJ.add rfl rfl) ?_
 refine dx [11, 12, 13] ?_
 refine RunD.op 14 [false, false, false, false, false, false, false, false, false, false, false, false, false, false] rfl rfl rfl kr kr (OpJ.store1 T3 rfl rfl rfl up (by simp) ⟨po, ?_⟩)
 refine kd [4, 5, 7] rfl ?_
 refine Run.seq ?_
 refine regionD HM ?_
 refine dx [0, 1, 2, 3, 4, 5, 6, 7, 8, 9] ?_
 refine tk 10 rfl rfl rfl (DetJ.add rfl rfl) ?_
 refine dx [11, 12, 13] ?_
 refine RunD.op 14 [false, false, false, false, false, false, false, false, false, false, false, false, false, false] rfl rfl rfl kr kr (OpJ.store1 T3 rfl rfl rfl up (by simp) ⟨po, ?_⟩)
 refine kd [4, 5, 7] rfl ?_
 refine Run.seq ?_
 refine sr ?_
 refine sx 1 ?_
 refine RunL.call C38 rfl rfl rfl (ac38 b18 (summed t c) m c _ _ _ _ _ _ rfl rfl hnt) tks ?_
 refine kq [4, 5, 7, 91] ?_
 refine cnd rfl (fun h10 => ?_) fun h10 => ?_
 refine rg 5 [4, 5, 6] ?_
 refine Run.ret ?_
 have hres2 : fStep s m = .error 4 := (by unfold fStep; rw [if_neg h1, if_neg (by rw [← ptrOf_isSome (a := ⟨bp, 0, none⟩) (k := 7)]; simp [h2]), hres]; exact if_pos (by assumption)); refine ret_out (none, 0, none, 0) (.cellA T28 rfl pk (by rfl) (.cellA T43 rfl pk (by rfl) (.tmp rfl .nil))) trivial (by rw [hres2]; rfl) ?_; rw [hres2]; exact gv
 refine Run.skip ?_
 refine Run.seq ?_
 refine regionD HM ?_
 refine dx [0, 1, 2, 3, 4, 5, 6, 7] ?_
 refine dsw 8 [true, true, true, true, false, false, false, false] ?_
 refine dsw 9 [false, false, false, false] ?_
 refine dx [10] ?_
 refine kd [4, 5, 6] rfl ?_
 refine Run.ret ?_
 have hres2 : fStep s m = .ok (summed t c, c) := (by unfold fStep; rw [if_neg h1, if_neg (by rw [← ptrOf_isSome (a := ⟨bp, 0, none⟩) (k := 7)]; simp [h2]), hres]; exact if_neg (by simp only [*]; decide)); refine ret_out (la2, lc2, pa2, pc2) (.cellA T28 rfl pk (by rfl) (.cellA T43 rfl pk (by rfl) (.tmp rfl .nil))) trivial (by rw [hres2]; rfl) ?_; rw [hres2]; exact gv
 refine rg 2 [4, 5, 7, 9, 51] ?_
 refine cnd rfl (fun h11 => ?_) fun h11 => ?_
 refine Run.region ?_
 refine sx 3 ?_
 refine kq [4, 5, 7, 9] ?_
 refine Run.seq ?_
 refine sr ?_
 refine sx 1 ?_
 refine RunL.callX C37 rfl rfl rfl (acd37 b18 s m ⟨m.seq, 0, 0, 0⟩ _ _ _ _ _ _ rfl rfl hs hm (by assumption)) tks fun ⟨la2, lc2, pa2, pc2⟩ _ => ?_
 rcases hres : fDo s m ⟨m.seq, 0, 0, 0⟩ with e | ⟨t, c⟩
 refine sx 1 ?_
 refine kq [4, 5, 7, 10] ?_
 refine sr ?_
 refine sx 2 ?_
 first | refine RunL.set (congrArg Value.bool (decide_eq_true (show errOf (Except.error _) ≠ 0 from fDo_err hres))) ?_ | skip
 refine kq [4, 5, 7, 10, 58] ?_
 refine Run.true rfl ?_
 refine rg 6 [4, 5, 6] ?_
 refine Run.ret ?_
 have hres2 : fStep s m = .error e := (by unfold fStep; rw [if_neg h1, if_neg (by rw [← ptrOf_isSome (a := ⟨bp, 0, none⟩) (k := 7)]; simp [h2]), hres]); refine ret_out (none, 0, none, 0) (.cellA T28 rfl pk (by rfl) (.cellA T43 rfl pk (by rfl) (.tmp rfl .nil))) trivial (by rw [hres2]; rfl) ?_; rw [hres2]; exact gv
 have hto := fDo_ok hs hm hres
 have hnt : (summed t c).layers.length ≤ 1000000 ∧ (summed t c).past.length ≤ 1000000 := ⟨hto.nl, hto.np⟩
 refine sx 1 ?_
 refine kq [4, 5, 7, 10] ?_
 refine sr ?_
 refine sx 2 ?_
 first | refine RunL.set (congrArg Value.bool (decide_eq_true (show errOf (Except.error _) ≠ 0 from fDo_err hres))) ?_ | skip
 refine kq [4, 5, 7, 10, 58] ?_
 refine Run.false rfl ?_
 refine Run.skip ?_
 refine Run.seq ?_
 refine regionD HM ?_
 refine dx [0, 1, 2, 3, 4, 5, 6, 7, 8, 9] ?_
 refine tk 10 rfl rfl rfl (DetJ.add rfl rfl) ?_
 refine dx [11, 12, 13] ?_
 refine RunD.op 14 [false, false, false, false, false, false, false, false, false, false, false, false, false, false] rfl rfl rfl kr kr (OpJ.store1 T3 rfl rfl rfl up (by simp) ⟨po, ?_⟩)
 refine kd [4, 5, 7] rfl ?_
 refine Run.seq ?_
 refine regionD HM ?_
 refine dx [0, 1, 2, 3, 4, 5, 6, 7, 8, 9] ?_
 refine tk 10 rfl rfl rfl (DetJ.add rfl rfl) ?_
 refine dx [11, 12, 13] ?_
 refine RunD.op 14 [false, false, false, false, false, false, false, false, false, false, false, false, false, false] rfl rfl rfl kr kr (OpJ.store1 T3 rfl rfl rfl up (by simp) ⟨po, ?_⟩)
 refine kd [4, 5, 7] rfl ?_
 refine Run.seq ?_
 refine sr ?_
 refine sx 1 ?_
 refine RunL.call C38 rfl rfl rfl (ac38 b18 (summed t c) m c _ _ _ _ _ _ rfl rfl hnt) tks ?_
 refine kq [4, 5, 7, 91] ?_
 refine cnd rfl (fun h12 => ?_) fun h12 => ?_
 refine rg 5 [4, 5, 6] ?_
 refine Run.ret ?_
 have hres2 : fStep s m = .error 4 := (by unfold fStep; rw [if_neg h1, if_neg (by rw [← ptrOf_isSome (a := ⟨bp, 0, none⟩) (k := 7)]; simp [h2]), hres]; exact if_pos (by assumption)); refine ret_out (none, 0, none, 0) (.cellA T28 rfl pk (by rfl) (.cellA T43 rfl pk (by rfl) (.tmp rfl .nil))) trivial (by rw [hres2]; rfl) ?_; rw [hres2]; exact gv
 refine Run.skip ?_
 refine Run.seq ?_
 refine regionD HM ?_
 refine dx [0, 1, 2, 3, 4, 5, 6, 7] ?_
 refine dsw 8 [true, true, true, true, false, false, false, false] ?_
 refine dsw 9 [false, false, false, false] ?_
 refine dx [10] ?_
 refine kd [4, 5, 6] rfl ?_
 refine Run.ret ?_
 have hres2 : fStep s m = .ok (summed t c, c) := (by unfold fStep; rw [if_neg h1, if_neg (by rw [← ptrOf_isSome (a := ⟨bp, 0, none⟩) (k := 7)]; simp [h2]), hres]; exact if_neg (by simp only [*]; decide)); refine ret_out (la2, lc2, pa2, pc2) (.cellA T28 rfl pk (by rfl) (.cellA T43 rfl pk (by rfl) (.tmp rfl .nil))) trivial (by rw [hres2]; rfl) ?_; rw [hres2]; exact gv
 refine Run.skip ?_
 refine Run.seq ?_
 refine sr ?_
 refine sx 1 ?_
 refine RunL.callX C32 rfl rfl rfl (acd32 (stars []) s m ⟨m.seq, 0, 0, 0⟩ (by refine ⟨?_, ?_, ?_, ?_, ?_⟩ <;> assumption)) .nil fun ⟨la2, lc2, pa2, pc2⟩ _ => ?_
 rcases hres : fDo s m ⟨m.seq, 0, 0, 0⟩ with e | ⟨t, c⟩
 refine sx 1 ?_
 refine kq [4, 5, 7, 10] ?_
 refine sr ?_
 refine sx 2 ?_
 first | refine RunL.set (congrArg Value.bool (decide_eq_true (show errOf (Except.error _) ≠ 0 from fDo_err hres))) ?_ | skip
 refine kq [4, 5, 7, 10, 58] ?_
 refine Run.true rfl ?_
 refine rg 6 [4, 5, 6] ?_
 refine Run.ret ?_
 have hres2 : fStep s m = .error e := (by unfold fStep; rw [if_neg h1, if_neg (by rw [← ptrOf_isSome (a := ⟨bp, 0, none⟩) (k := 7)]; simp [h2]), hres]); refine ret_out (none, 0, none, 0) (.cellA T28 rfl pk (by rfl) (.cellA T43 rfl pk (by rfl) (.tmp rfl .nil))) trivial (by rw [hres2]; rfl) ?_; rw [hres2]; exact gv
 rw [fDo_0 (by refine ⟨?_, ?_, ?_, ?_, ?_⟩ <;> assumption)] at hres; cases hres
theorem ac44 (R : HP) (oa : Option Addr) (cap : Nat) (ps : List Pa) (kind seq : Int) (hR : RdS R oa (ps.flatMap Pa.c)) (hlen : (ps.length : Int) ≤ 9223372036854775807) : AC Tryz.prog 101 ⟨[.slice oa ps.length cap, .agg ⟨[I kind, I seq]⟩]⟩ (stars [R]) (Ret (I (findIdx (fun p => decide (p.kind = kind ∧ p.seq = seq)) ps)) [R]) := by
 refine eo Tryz.func101 fun β => ?_
 refine sr ?_
 refine obx rfl fun b3 => ?_
 refine sx 1 ?_
 refine kq [0, 3] ?_
 refine Run.seq ?_
 refine rg 3 [3, 7, 8, 9] ?_
 refine Run.block ?_
 refine Run.loop (fun mm E L => ∃ i : Nat, mm = ps.length - i ∧ i ≤ ps.length ∧ (∀ j y, j < i → ps[j]? = some y → decide (y.kind = kind ∧ y.seq = seq) = false) ∧ E = [(3, .pointer (some ⟨b3, 0, none⟩)), (7, .slice oa ps.length cap), (8, I ps.length), (9, I i)] ∧ L = [pt b3 (blk [I kind, I seq] 153), R]) ⟨_, 0, rfl, Nat.zero_le _, fun _ _ h => by omega, rfl, rfl⟩ ?_
 rintro _ _ _ ⟨i, rfl, hi, hI0, rfl, rfl⟩
 refine rg 1 [3, 7, 8, 9, 10] ?_
 refine Run.seq ?_
 refine cnd rfl (fun h1 => ?_) fun h1 => ?_
 refine Run.skip ?_
 refine Run.seq ?_
 refine Run.block ?_
 refine sr ?_
 obtain ⟨x, hx⟩ := get_ex (xs := ps) (by omega)
 refine RunL.rdOpen pk hR (flat_ne (k := 7) (fun _ => rfl) (by decide) hx) fun b o e hrd => ?_
 subst e
 refine sx 2 ?_
 refine RunL.op rfl rfl (OpJ.loadA T66 rfl pk (hrd.elem (fun _ => rfl) hx) rfl ?_)
 refine oal fun b6 => ?_
 refine sx 2 ?_
 refine kq [3, 5, 6, 7, 8, 9] ?_
 refine rg 7 [3, 5, 7, 8, 9, 20] ?_
 refine cnd rfl (fun h2 => ?_) fun h2 => ?_
 refine rg 2 [4] ?_
 exact .ret (ret_one (.tmp rfl .nil) (congrArg I (findIdx_at hx (by simp_all) hI0).symm) gv)
 refine Run.skip ?_
 refine Run.region ?_
 refine sx 2 ?_
 exact RunL.next (Keep.sub (kt (ks := [3, 7, 8, 9]) rfl)) _ ⟨_, by omega, i + 1, rfl, by omega, notYet hx (by simp_all) hI0, rfl, rfl⟩ gv
 refine Run.exit ?_
 refine rg 1 [4] ?_
 exact .ret (ret_one (.tmp rfl .nil) (congrArg I (findIdx_none (fun j y hj => hI0 j y (by omega))).symm) gv)
theorem ac120 (a b : Int) (ha : i64 a) (hb : i64 b) : AC Tryz.prog 169 ⟨[I a, I b]⟩ (stars []) (Ret (.tuple ⟨[I (mulN a b), Bo (mulOk a b)]⟩) []) := by
 have ua := mag_u64 ha; have ub := mag_u64 hb
 refine eo Tryz.func169 fun β => ?_
 refine rg 2 [0, 1] ?_
 refine sr ?_
 refine sx 1 ?_
 refine RunL.call C157 rfl rfl rfl (ac157 _ (by omega)) .nil ?_
 refine sx 1 ?_
 refine RunL.call C157 rfl rfl rfl (ac157 _ (by omega)) .nil ?_
 refine RunL.call C156 rfl rfl rfl (ac156 _ _ (by omega) (by omega)) .nil ?_
 refine sx 5 ?_
 refine kq [0, 1, 6, 7] ?_
 refine rg 1 [0, 1, 6, 7, 8] ?_
 refine Run.seq ?_
 refine rg 5 [0, 1, 6, 7, 8, 21] ?_
 refine cnd rfl (fun h1 => ?_) fun h1 => ?_
 refine Run.region ?_
 refine sx 1 ?_
 refine RunL.op rfl rfl (OpJ.add rfl rfl ?_)
 refine sx 1 ?_
 refine kq [0, 1, 6, 7, 8] ?_
 refine Run.seq ?_
 refine sr ?_
 refine sx 3 ?_
 refine spl 26 rfl (fun g2 => ?_) fun g2 => ?_
 refine sx 4 ?_
 refine kq [0, 1, 30] ?_
 refine Run.true rfl ?_
 refine rg 2 [4, 5] ?_
 refine Run.ret ?_
 exact ret_one (.tmp rfl (.tmp rfl .nil)) (mul_no (by have e := sgn_diff h1; rw [e.2] at g2; omega)) gv
 refine sx 4 ?_
 refine kq [0, 1, 30] ?_
 refine cnd rfl (fun h3 => ?_) fun h3 => ?_
 refine rg 2 [4, 5] ?_
 refine Run.ret ?_
 exact ret_one (.tmp rfl (.tmp rfl .nil)) (mul_no (by have e := sgn_diff h1; rw [e.2, wrap_u64] at h3; omega)) gv
 refine Run.skip ?_
 refine rg 5 [4, 5] ?_
 refine Run.ret ?_
 exact ret_one (.tmp rfl (.tmp rfl .nil)) (mul_yes (by have e := sgn_diff h1; rw [e.2] at g2; rw [e.2, wrap_u64] at h3; omega)) gv
 refine Run.skip ?_
 refine Run.seq ?_
 refine sr ?_
 refine sx 3 ?_
 refine spl 26 rfl (fun g4 => ?_) fun g4 => ?_
 refine sx 4 ?_
 refine kq [0, 1, 30] ?_
 refine Run.true rfl ?_
 refine rg 2 [4, 5] ?_
 refine Run.ret ?_
 exact ret_one (.tmp rfl (.tmp rfl .nil)) (mul_no (by have e := sgn_same h1; rw [e.2] at g4; omega)) gv
 refine sx 4 ?_
 refine kq [0, 1, 30] ?_
 refine cnd rfl (fun h5 => ?_) fun h5 => ?_
 refine rg 2 [4, 5] ?_
 refine Run.ret ?_
 exact ret_one (.tmp rfl (.tmp rfl .nil)) (mul_no (by have e := sgn_same h1; rw [e.2] at h5; omega)) gv
 refine Run.skip ?_
 refine rg 5 [4, 5] ?_
 refine Run.ret ?_
 exact ret_one (.tmp rfl (.tmp rfl .nil)) (mul_yes (by have e := sgn_same h1; rw [e.2] at g4; rw [e.2] at h5; omega)) gv
end
end Go.Proofs.YtcpghpifbgpkjaaGreatDoor

namespace Go.Proofs.YtcpghpifbgpkjaaGreatDoor
open Go Go.SL Go.Proofs
theorem ac44k (R : HP) (oa : Option Addr) (cap : Nat) (ps : List Pa) (kind seq : Int) (hR : RdS R oa (ps.flatMap Pa.c)) (hlen : (ps.length : Int) ≤ 9223372036854775807) (hk : kind ≠ 0) : AC Tryz.prog 101 ⟨[.slice oa ps.length cap, .agg ⟨[I kind, I seq]⟩]⟩ (stars [R]) (Ret (I (idxOf (findI (isPast kind seq) ps))) [R]) := by
  have h := ac44 R oa cap ps kind seq hR hlen
  rw [findIdx_idx, ← isPast_eq hk] at h; exact h
section
attribute [local irreducible] OpJ RunL Run RunD DetJ pt own star Rd RdS
theorem ac118 (p : Pa) (m : Mv) (hm : i64 m.qty) : AC Tryz.prog 167 ⟨[.agg ⟨p.c⟩, I m.qty]⟩ (stars []) (Ret (I (backV p m)) []) := by
 refine eo Tryz.func167 fun β => ?_
 refine sr ?_
 refine obx rfl fun b2 => ?_
 refine sx 1 ?_
 refine kq [1, 2] ?_
 refine Run.seq ?_
 refine regionD HM ?_
 refine dx [0, 1, 2, 3] ?_
 refine tk 4 rfl rfl rfl (DetJ.sub rfl rfl) ?_
 refine dx [5, 6, 7, 8] ?_
 refine tk 9 rfl rfl rfl (DetJ.sub rfl rfl) ?_
 refine dx [10, 11] ?_
 refine kd [1, 5, 6] rfl ?_
 refine Run.seq ?_
 refine rg 3 [1, 5, 6, 21] ?_
 refine cnd rfl (fun h1 => ?_) fun h1 => ?_
 refine rg 2 [4] ?_
 exact .ret (ret_one (.tmp rfl .nil) t0 .nil)
 refine Run.skip ?_
 refine sr ?_
 refine sx 3 ?_
 refine RunL.call C111 rfl rfl rfl (ac111 _ _ _ _ (W_i64 _) hm (W_i64 _)) .nil ?_
 refine sx 5 ?_
 refine kq [7] ?_
 refine rg 2 [4] ?_
 exact .ret (ret_one (.tmp rfl .nil) t0 .nil)
theorem ac45 (s : Sk) (la : Option Addr) (lc : Nat) (pa : Option Addr) (pc : Nat) (RL RP : HP) (hn : s.layers.length ≤ 1000000 ∧ s.past.length ≤ 1000000) (hRL : RdS RL la (s.layers.flatMap Ly.c)) (hRP : RdS RP pa (s.past.flatMap Pa.c)) : AC Tryz.prog 102 ⟨[.agg ⟨s.c la lc pa pc⟩]⟩ (stars [RL, RP]) (Outs (fun _ : Nat × Nat => True) (fun x => .agg ⟨s.c (some ⟨x.1, 0, none⟩) s.layers.length (some ⟨x.2, 0, none⟩) s.past.length⟩) (fun x => [own 96 4 (some ⟨x.1, 0, none⟩) s.layers.length s.layers.length ((s.layers).flatMap Ly.c), own 98 7 (some ⟨x.2, 0, none⟩) s.past.length s.past.length ((s.past).flatMap Pa.c), RL, RP])) := by
 have hnl := hn.1; have hnp := hn.2
 refine eo Tryz.func102 fun β => ?_
 refine sr ?_
 refine obx rfl fun b1 => ?_
 refine oal fun b2 => ?_
 refine kq [1, 2] ?_
 refine sr ?_
 refine sx 3 ?_
 refine RunL.op rfl rfl (OpJ.make S26 M66 rfl rfl (by omega) (by omega) fun b8 => ?_)
 refine sx 1 ?_
 refine kq [1, 2, 3] ?_
 refine sr ?_
 refine sx 3 ?_
 refine RunL.op rfl rfl (OpJ.copyAll S26 rfl rfl up pk hRP (flat_len (enc := Pa.c) (k := 7) (fun _ => rfl) _) (by simp) (flat_one Pa.one _) ?_)
 refine kq [1, 2, 3] ?_
 refine sr ?_
 refine sx 3 ?_
 refine RunL.op rfl rfl (OpJ.make S25 M64 rfl rfl (by omega) (by omega) fun b16 => ?_)
 refine sx 1 ?_
 refine kq [1, 2, 3, 4] ?_
 refine sr ?_
 refine sx 3 ?_
 refine RunL.op rfl rfl (OpJ.copyAll S25 rfl rfl up pk hRL (flat_len (enc := Ly.c) (k := 4) (fun _ => rfl) _) (by simp) (flat_one Ly.one _) ?_)
 refine kq [1, 2, 3, 4] ?_
 refine rg 6 [1, 2] ?_
 refine rg 2 [2] ?_
 exact .ret (ret_out (b16, b8) (.cellA T28 rfl pk (by rfl) .nil) trivial rfl gv)
theorem ac115 (bx : Nat) (t : Sk) (m : Mv) (c : Co) (la : Option Addr) (nl lc : Nat) (pa : Option Addr) (np pc : Nat) (p : Int) (hq : i64 m.qty) (hp : i64 p) : AC Tryz.prog 164 ⟨[.pointer (some ⟨bx, 0, none⟩), I p]⟩ (stars [pt bx (blk (XC t m c la nl lc pa np pc) 156)]) (Ret (.tuple ⟨[I (priceV m p), I (priceE m p)]⟩) [pt bx (blk (XC t m c la nl lc pa np pc) 156)]) := by
 refine eo Tryz.func164 fun β => ?_
 refine rg 2 [0, 1] ?_
 refine sr ?_
 refine sx 6 ?_
 refine RunL.call C120 rfl rfl rfl (ac120 _ _ (by omega) (by omega)) .nil ?_
 refine sx 5 ?_
 refine kq [6, 7] ?_
 refine Run.seq ?_
 refine rg 2 [6, 19] ?_
 refine cnd rfl (fun h1 => ?_) fun h1 => ?_
 refine rg 2 [4, 5] ?_
 refine Run.ret ?_
 exact ret_one (.tmp rfl (.tmp rfl .nil)) (by simp [tup, priceV, priceE, *] <;> simp_all) gv
 refine Run.skip ?_
 refine rg 3 [4, 5] ?_
 refine Run.ret ?_
 exact ret_one (.tmp rfl (.tmp rfl .nil)) (by simp [tup, priceV, priceE, *] <;> simp_all) gv
theorem ac116 (bx : Nat) (t : Sk) (m : Mv) (c : Co) (la : Option Addr) (nl lc : Nat) (pa : Option Addr) (np pc : Nat) (v : Int) (enl : nl = t.layers.length) (enp : np = t.past.length) (hn : t.layers.length ≤ 1000000 ∧ t.past.length ≤ 1000000) : AC Tryz.prog 165 ⟨[.pointer (some ⟨bx, 0, none⟩), I v]⟩ (stars [pt bx (blk (XC t m c la nl lc pa np pc) 156), own 98 7 pa np pc ((t.past).flatMap Pa.c)]) (Outs (fun _ : Option Addr × Nat => True) (fun _ => .tuple ⟨[]⟩) (fun x => [pt bx (blk (XC { t with past := t.past ++ [(⟨m.seq, m.kind, m.lot, m.qty, v, 0, 0⟩ : Pa)] } m c la nl lc x.1 (t.past ++ [(⟨m.seq, m.kind, m.lot, m.qty, v, 0, 0⟩ : Pa)]).length x.2) 156), own 98 7 x.1 (t.past ++ [(⟨m.seq, m.kind, m.lot, m.qty, v, 0, 0⟩ : Pa)]).length x.2 ((t.past ++ [(⟨m.seq, m.kind, m.lot, m.qty, v, 0, 0⟩ : Pa)]).flatMap Pa.c)])) := by
 subst enl enp
 have hnl := hn.1; have hnp := hn.2
 refine eo Tryz.func165 fun β => ?_
 refine regionD HM ?_
 refine dx [0, 1, 2, 3, 4, 5, 6, 7, 8, 9, 10, 11, 12, 13, 14, 15, 16, 17, 18, 19, 20, 21, 22, 23, 24, 25, 26, 27] ?_
 refine RunD.op 28 [false, false, false, false, true, true, true, false, false, true, true, true, false, false, true, true, true, false, false, true, true, true, true, true, true, true, true, true] rfl rfl rfl kr kr (OpJ.buildSlice1 S26 rfl rfl rfl (by decide) (by decide) Z66 rfl fun b32 => ⟨po, ?_⟩)
 refine RunD.op 29 [true, true, true, true, true, true, true, true, true, true, true, true, false, false, false, true, true, true] rfl rfl rfl kr kr (OpJ.append1 (⟨m.seq, m.kind, m.lot, m.qty, v, 0, 0⟩ : Pa) S26 M66 rfl rfl pk pk rfl rfl (by simp [Value.oneCell', Pa.c, Ly.c, Mv.c, Co.c]) rfl (by omega) (by omega) fun a33 c33 => ⟨po, ?_⟩)
 refine dx [30, 31, 32] ?_
 refine RunD.op 33 [false, false, false, false, false, false, false, false, false, false, false, false, false, false, false, false, false, false] rfl rfl rfl kr kr (OpJ.store1 T26 rfl rfl rfl up (by simp) ⟨po, ?_⟩)
 refine kd [] rfl ?_
 exact ret_out (a33, c33) .nil trivial rfl gv
theorem ac117 (bx : Nat) (t : Sk) (m : Mv) (c : Co) (la : Option Addr) (nl lc : Nat) (pa : Option Addr) (np pc : Nat) (kind : Int) (enl : nl = t.layers.length) (enp : np = t.past.length) (hk : kind ≠ 0) (hn : t.layers.length ≤ 1000000 ∧ t.past.length ≤ 1000000) : AC Tryz.prog 166 ⟨[.pointer (some ⟨bx, 0, none⟩), I kind]⟩ (stars [pt bx (blk (XC t m c la nl lc pa np pc) 156), own 98 7 pa np pc ((t.past).flatMap Pa.c)]) (Ret (.tuple ⟨[I (okIdx (refd kind m t.past)), I (errOf (refd kind m t.past))]⟩) [pt bx (blk (XC t m c la nl lc pa np pc) 156), own 98 7 pa np pc ((t.past).flatMap Pa.c)]) := by
 subst enl enp
 have hnl := hn.1; have hnp := hn.2
 refine eo Tryz.func166 fun β => ?_
 refine rg 2 [0, 1] ?_
 refine Run.seq ?_
 refine regionD HM ?_
 refine dx [0, 1, 2, 3, 4, 5, 6, 7, 8, 9, 10, 11] ?_
 refine RunD.op 12 [false, false, false, true, true, true, false, false, false, false, true, true] rfl rfl rfl kr kr (OpJ.callRet C44 rfl rfl (ac44k _ _ _ t.past kind m.ref own.rds (by omega) hk) tks ⟨po, ?_⟩)
 refine dx [13] ?_
 refine kd [0, 6] rfl ?_
 refine Run.seq ?_
 refine sr ?_
 refine sx 2 ?_
 rcases hf : findI (isPast kind m.ref) t.past with _ | ⟨i, p⟩
 refine kq [0, 6, 22] ?_
 refine Run.true rfl ?_
 refine rg 2 [4, 5] ?_
 exact .ret (ret_one (.tmp rfl (.tmp rfl .nil)) (by simp [tup, refd, hf, okIdx, errOf, idxOf, *]) gv)
 obtain ⟨hx, _⟩ := findI_some hf
 have hi := (List.getElem?_eq_some_iff.1 hx).1
 refine RunL.ownAddr pk (flat_ne (k := 7) (fun _ => rfl) (by decide) hx) fun b e hcap => ?_
 subst e
 simp only [idxOf]
 refine sF (show ¬ ((i : Int) < 0) by omega) ?_
 refine kq [0, 6, 22] ?_
 refine Run.false rfl ?_
 refine Run.skip ?_
 refine Run.seq ?_
 refine sr ?_
 refine sx 8 ?_
 refine oal fun b7 => ?_
 refine sx 1 ?_
 refine kq [0, 6, 7] ?_
 refine Run.seq ?_
 refine regionD HM ?_
 refine dx [0, 1, 2, 3, 4, 5, 6, 7, 8] ?_
 refine tk 9 rfl rfl rfl (DetJ.sub rfl rfl) ?_
 refine dx [10] ?_
 refine kd [6, 41] rfl ?_
 refine cnd rfl (fun h1 => ?_) fun h1 => ?_
 refine rg 2 [4, 5] ?_
 exact .ret (ret_one (.tmp rfl (.tmp rfl .nil)) (by simp [tup, refd, hf, okIdx, errOf, idxOf, *]) gv)
 refine Run.skip ?_
 refine rg 3 [4, 5] ?_
 exact .ret (ret_one (.tmp rfl (.tmp rfl .nil)) (by simp [tup, refd, hf, okIdx, errOf, idxOf, *]) gv)
theorem ac78 (bx : Nat) (t : Sk) (m : Mv) (c : Co) (la : Option Addr) (nl lc : Nat) (pa : Option Addr) (np pc : Nat) (enl : nl = t.layers.length) (enp : np = t.past.length) (ht : t.ok 999999) (hm : m.ok) : AC Tryz.prog 132 ⟨[.pointer (some ⟨bx, 0, none⟩)]⟩ (stars [pt bx (blk (XC t m c la nl lc pa np pc) 156), own 96 4 la nl lc ((t.layers).flatMap Ly.c), own 98 7 pa np pc ((t.past).flatMap Pa.c)]) (Outs (fun _ : Option Addr × Nat × Option Addr × Nat => True) (fun _ => I (errOf (sRecv t m c))) (fun x => Aft 156 96 98 bx m (sRecv t m c) x)) := by
 subst enl enp
 have hn : t.layers.length ≤ 1000000 ∧ t.past.length ≤ 1000000 := ⟨Nat.le_trans ht.nl (by decide), Nat.le_trans ht.np (by decide)⟩
 have hnl := ht.nl; have hnp := ht.np
 obtain ⟨hm1, hm2⟩ := hm
 refine eo Tryz.func132 fun β => ?_
 refine rg 1 [0] ?_
 refine sr ?_
 refine sx 6 ?_
 refine RunL.call C115 rfl rfl rfl (ac115 bx t m c _ _ _ _ _ _ t.price hm1 ht.pr) tks ?_
 refine sx 5 ?_
 refine kq [0, 3, 4] ?_
 refine Run.seq ?_
 refine rg 2 [0, 3, 4, 16] ?_
 refine cnd rfl (fun h1 => ?_) fun h1 => ?_
 refine rg 2 [2] ?_
 refine Run.ret ?_
 have hres : sRecv t m c = .error _ := (by unfold sRecv; rw [if_pos (by assumption)]); refine ret_out (none, 0, none, 0) (.tmp rfl .nil) trivial (by rw [hres]; rfl) ?_; rw [hres]; exact gv
 refine Run.skip ?_
 refine sr ?_
 refine sx 6 ?_
 refine RunL.callX C116 rfl rfl rfl (ac116 bx t m c la _ lc pa _ pc _ rfl rfl hn) tks fun ⟨pa2, pc2⟩ _ => ?_
 refine kq [0, 3] ?_
 refine Run.seq ?_
 refine regionD HM ?_
 refine dx [0, 1, 2, 3, 4, 5, 6, 7, 8, 9, 10, 11, 12] ?_
 refine tk 13 rfl rfl rfl (DetJ.sub rfl rfl) ?_
 refine dx [14, 15, 16] ?_
 refine RunD.op 17 [false, false, false, false, false, false, false, false, false, false, false, false, false, false, false, false, false] rfl rfl rfl kr kr (OpJ.store T43 rfl rfl rfl rfl (by simp [Value.cells, Value.oneCell', Pa.c, Ly.c, Mv.c, Co.c]) up (by simp) ⟨po, ?_⟩)
 refine kd [] rfl ?_
 refine rg 1 [2] ?_
 refine Run.ret ?_
 have hres : sRecv t m c = .ok _ := (by unfold sRecv; rw [if_neg (by assumption)]); refine ret_out (la, lc, pa2, pc2) (.tmp rfl .nil) trivial (by rw [hres]; rfl) ?_; rw [hres]; simp only [Aft, List.length_set, List.length_append]; exact gv
theorem ac79 (bx : Nat) (t : Sk) (m : Mv) (c : Co) (la : Option Addr) (nl lc : Nat) (pa : Option Addr) (np pc : Nat) (enl : nl = t.layers.length) (enp : np = t.past.length) (ht : t.ok 999999) (hm : m.ok) : AC Tryz.prog 133 ⟨[.pointer (some ⟨bx, 0, none⟩)]⟩ (stars [pt bx (blk (XC t m c la nl lc pa np pc) 156), own 96 4 la nl lc ((t.layers).flatMap Ly.c), own 98 7 pa np pc ((t.past).flatMap Pa.c)]) (Outs (fun _ : Option Addr × Nat × Option Addr × Nat => True) (fun _ => I (errOf (sIssue t m c))) (fun x => Aft 156 96 98 bx m (sIssue t m c) x)) := by
 subst enl enp
 have hn : t.layers.length ≤ 1000000 ∧ t.past.length ≤ 1000000 := ⟨Nat.le_trans ht.nl (by decide), Nat.le_trans ht.np (by decide)⟩
 have hnl := ht.nl; have hnp := ht.np
 obtain ⟨hm1, hm2⟩ := hm
 refine eo Tryz.func133 fun β => ?_
 refine rg 1 [0] ?_
 refine Run.seq ?_
 refine Run.seq ?_
 refine regionD HM ?_
 refine dx [0, 1, 2, 3, 4, 5, 6, 7, 8, 9, 10] ?_
 refine kd [0, 15] rfl ?_
 refine cnd rfl (fun h1 => ?_) fun h1 => ?_
 refine rg 1 [2] ?_
 refine Run.ret ?_
 have hres : sIssue t m c = .error _ := (by unfold sIssue; rw [if_pos (by assumption)]); refine ret_out (none, 0, none, 0) (.tmp rfl .nil) trivial (by rw [hres]; rfl) ?_; rw [hres]; exact gv
 refine Run.skip ?_
 refine sr ?_
 refine sx 6 ?_
 refine RunL.call C115 rfl rfl rfl (ac115 bx t m c _ _ _ _ _ _ t.price hm1 ht.pr) tks ?_
 refine sx 5 ?_
 refine kq [0, 3, 4] ?_
 refine Run.seq ?_
 refine rg 2 [0, 3, 4, 27] ?_
 refine cnd rfl (fun h2 => ?_) fun h2 => ?_
 refine rg 2 [2] ?_
 refine Run.ret ?_
 have hres : sIssue t m c = .error _ := (by unfold sIssue; rw [if_neg h1, if_pos (by assumption)]); refine ret_out (none, 0, none, 0) (.tmp rfl .nil) trivial (by rw [hres]; rfl) ?_; rw [hres]; exact gv
 refine Run.skip ?_
 refine sr ?_
 refine sx 2 ?_
 refine RunL.callX C116 rfl rfl rfl (ac116 bx t m c la _ lc pa _ pc _ rfl rfl hn) tks fun ⟨pa2, pc2⟩ _ => ?_
 refine kq [0, 3] ?_
 refine rg 13 [] ?_
 refine rg 1 [2] ?_
 refine Run.ret ?_
 have hres : sIssue t m c = .ok _ := (by unfold sIssue; rw [if_neg h1, if_neg (by assumption)]); refine ret_out (la, lc, pa2, pc2) (.tmp rfl .nil) trivial (by rw [hres]; rfl) ?_; rw [hres]; simp only [Aft, List.length_set, List.length_append]; exact gv
theorem ac80 (bx : Nat) (t : Sk) (m : Mv) (c : Co) (la : Option Addr) (nl lc : Nat) (pa : Option Addr) (np pc : Nat) (enl : nl = t.layers.length) (enp : np = t.past.length) (ht : t.ok 999999) (hm : m.ok) : AC Tryz.prog 134 ⟨[.pointer (some ⟨bx, 0, none⟩)]⟩ (stars [pt bx (blk (XC t m c la nl lc pa np pc) 156), own 96 4 la nl lc ((t.layers).flatMap Ly.c), own 98 7 pa np pc ((t.past).flatMap Pa.c)]) (Outs (fun _ : Option Addr × Nat × Option Addr × Nat => True) (fun _ => I (errOf (sCust t m c))) (fun x => Aft 156 96 98 bx m (sCust t m c) x)) := by
 subst enl enp
 have hn : t.layers.length ≤ 1000000 ∧ t.past.length ≤ 1000000 := ⟨Nat.le_trans ht.nl (by decide), Nat.le_trans ht.np (by decide)⟩
 have hnl := ht.nl; have hnp := ht.np
 obtain ⟨hm1, hm2⟩ := hm
 refine eo Tryz.func134 fun β => ?_
 refine rg 1 [0] ?_
 refine sr ?_
 refine sx 1 ?_
 refine RunL.call C117 rfl rfl rfl (ac117 bx t m c la _ lc pa _ pc _ rfl rfl (by decide) hn) tks ?_
 refine sx 5 ?_
 refine kq [0, 3, 4] ?_
 refine Run.seq ?_
 refine rg 2 [0, 3, 4, 13] ?_
 refine cnd rfl (fun h1 => ?_) fun h1 => ?_
 refine sr ?_
 obtain ⟨e, he⟩ := errOf_ne h1
 refine sx 2 ?_
 refine kq [2] ?_
 refine Run.ret ?_
 have hres : sCust t m c = .error e := (by unfold sCust; rw [he]); rw [he]; refine ret_out (none, 0, none, 0) (.tmp rfl .nil) trivial (by rw [hres]; rfl) ?_; rw [hres]; exact gv
 refine Run.skip ?_
 refine sr ?_
 obtain ⟨i, p, hr, hx⟩ := refd_ok (Decidable.not_not.1 h1)
 rw [hr]
 have hi := (List.getElem?_eq_some_iff.1 hx).1
 obtain ⟨hp1, hp2, hp3, hp4⟩ := ht.pa i p hx
 refine RunL.ownAddr pk (flat_ne (k := 7) (fun _ => rfl) (by decide) hx) fun b e hcap => ?_
 subst e
 simp only [okIdx]
 refine sx 6 ?_
 refine RunL.call C115 rfl rfl rfl (ac115 bx t m c _ _ _ _ _ _ t.price hm1 ht.pr) tks ?_
 refine sx 5 ?_
 refine kq [0, 3, 4, 5] ?_
 refine Run.seq ?_
 refine rg 2 [0, 3, 4, 5, 26] ?_
 refine cnd rfl (fun h2 => ?_) fun h2 => ?_
 refine rg 2 [2] ?_
 refine Run.ret ?_
 have hres : sCust t m c = .error _ := (by unfold sCust; rw [hr]; simp only; rw [if_pos (by assumption)]); refine ret_out (none, 0, none, 0) (.tmp rfl .nil) trivial (by rw [hres]; rfl) ?_; rw [hres]; exact gv
 refine Run.skip ?_
 refine Run.seq ?_
 refine regionD HM ?_
 refine dx [0, 1, 2, 3, 4, 5, 6, 7, 8, 9, 10, 11, 12] ?_
 refine RunD.op 13 [false, false, false, true, true, false, false, false, false, true, true, true, true] rfl rfl rfl kr kr (OpJ.callRet C118 rfl rfl (ac118 p m hm1) .nil ⟨po, ?_⟩)
 refine dx [14] ?_
 refine kd [0, 3, 5, 6] rfl ?_
 refine Run.seq ?_
 refine regionD HM ?_
 refine dx [0, 1, 2, 3, 4, 5, 6, 7, 8, 9, 10, 11, 12, 13] ?_
 refine tk 14 rfl rfl rfl (DetJ.add rfl rfl) ?_
 refine dx [15, 16] ?_
 refine RunD.op 17 [false, false, false, false, false, false, false, false, false, false, false, false, false, false, false, false, false] rfl rfl rfl kr kr (OpJ.storeO (i := i) (u' := sendP p m) T3 rfl rfl rfl hx (fun _ => rfl) (by decide) rfl up ⟨po, ?_⟩)
 refine kd [0, 3, 5, 6] rfl ?_
 refine sr ?_
 have hx1 := set_get hx (sendP p m)
 refine sx 10 ?_
 refine RunL.op rfl rfl (OpJ.add rfl rfl ?_)
 refine sx 2 ?_
 refine RunL.op rfl rfl (OpJ.storeO (i := i) (u' := backP p m) T3 rfl rfl rfl hx1 (fun _ => rfl) (by decide) rfl up ?_)
 rw [List.set_set]
 refine kq [0, 5, 6] ?_
 refine sr ?_
 refine sx 9 ?_
 refine RunL.op rfl rfl (OpJ.sub rfl rfl ?_)
 refine sx 4 ?_
 refine kq [] ?_
 refine rg 1 [2] ?_
 refine Run.ret ?_
 have hres : sCust t m c = .ok _ := (by unfold sCust; rw [hr]; simp only; rw [if_neg (by assumption)]); refine ret_out (la, lc, (some ⟨b, 0, none⟩), pc) (.tmp rfl .nil) trivial (by rw [hres]; rfl) ?_; rw [hres]; simp only [Aft, List.length_set, List.length_append]; exact gv
theorem ac81 (bx : Nat) (t : Sk) (m : Mv) (c : Co) (la : Option Addr) (nl lc : Nat) (pa : Option Addr) (np pc : Nat) (enl : nl = t.layers.length) (enp : np = t.past.length) (ht : t.ok 999999) (hm : m.ok) : AC Tryz.prog 135 ⟨[.pointer (some ⟨bx, 0, none⟩)]⟩ (stars [pt bx (blk (XC t m c la nl lc pa np pc) 156), own 96 4 la nl lc ((t.layers).flatMap Ly.c), own 98 7 pa np pc ((t.past).flatMap Pa.c)]) (Outs (fun _ : Option Addr × Nat × Option Addr × Nat => True) (fun _ => I (errOf (sSupp t m c))) (fun x => Aft 156 96 98 bx m (sSupp t m c) x)) := by
 subst enl enp
 have hn : t.layers.length ≤ 1000000 ∧ t.past.length ≤ 1000000 := ⟨Nat.le_trans ht.nl (by decide), Nat.le_trans ht.np (by decide)⟩
 have hnl := ht.nl; have hnp := ht.np
 obtain ⟨hm1, hm2⟩ := hm
 refine eo Tryz.func135 fun β => ?_
 refine rg 1 [0] ?_
 refine sr ?_
 refine sx 1 ?_
 refine RunL.call C117 rfl rfl rfl (ac117 bx t m c la _ lc pa _ pc _ rfl rfl (by decide) hn) tks ?_
 refine sx 5 ?_
 refine kq [0, 3, 4] ?_
 refine Run.seq ?_
 refine rg 2 [0, 3, 4, 12] ?_
 refine cnd rfl (fun h1 => ?_) fun h1 => ?_
 refine sr ?_
 obtain ⟨e, he⟩ := errOf_ne h1
 refine sx 2 ?_
 refine kq [2] ?_
 refine Run.ret ?_
 have hres : sSupp t m c = .error e := (by unfold sSupp; rw [he]); rw [he]; refine ret_out (none, 0, none, 0) (.tmp rfl .nil) trivial (by rw [hres]; rfl) ?_; rw [hres]; exact gv
 refine Run.skip ?_
 refine Run.seq ?_
 refine Run.seq ?_
 refine regionD HM ?_
 obtain ⟨i, p, hr, hx⟩ := refd_ok (Decidable.not_not.1 h1)
 rw [hr]
 have hi := (List.getElem?_eq_some_iff.1 hx).1
 obtain ⟨hp1, hp2, hp3, hp4⟩ := ht.pa i p hx
 refine RunD.ownAddr pk (flat_ne (k := 7) (fun _ => rfl) (by decide) hx) fun b e hcap => ?_
 subst e
 simp only [okIdx]
 refine dx [0, 1, 2, 3, 4, 5, 6, 7, 8, 9, 10] ?_
 refine kd [0, 3, 24] rfl ?_
 refine cnd rfl (fun h2 => ?_) fun h2 => ?_
 refine rg 1 [2] ?_
 refine Run.ret ?_
 have hres : sSupp t m c = .error _ := (by unfold sSupp; rw [hr]; simp only; rw [if_pos (by assumption)]); refine ret_out (none, 0, none, 0) (.tmp rfl .nil) trivial (by rw [hres]; rfl) ?_; rw [hres]; exact gv
 refine Run.skip ?_
 refine sr ?_
 refine sx 6 ?_
 refine RunL.call C115 rfl rfl rfl (ac115 bx t m c _ _ _ _ _ _ t.price hm1 ht.pr) tks ?_
 refine sx 5 ?_
 refine kq [0, 3, 4, 5] ?_
 refine Run.seq ?_
 refine rg 2 [0, 3, 4, 5, 36] ?_
 refine cnd rfl (fun h3 => ?_) fun h3 => ?_
 refine rg 2 [2] ?_
 refine Run.ret ?_
 have hres : sSupp t m c = .error _ := (by unfold sSupp; rw [hr]; simp only; rw [if_neg h2, if_pos (by assumption)]); refine ret_out (none, 0, none, 0) (.tmp rfl .nil) trivial (by rw [hres]; rfl) ?_; rw [hres]; exact gv
 refine Run.skip ?_
 refine Run.seq ?_
 refine regionD HM ?_
 refine dx [0, 1, 2, 3, 4, 5, 6, 7, 8, 9, 10, 11, 12, 13] ?_
 refine tk 14 rfl rfl rfl (DetJ.add rfl rfl) ?_
 refine dx [15, 16] ?_
 refine RunD.op 17 [false, false, false, false, false, false, false, false, false, false, false, false, false, false, false, false, false] rfl rfl rfl kr kr (OpJ.storeO (i := i) (u' := sendP p m) T3 rfl rfl rfl hx (fun _ => rfl) (by decide) rfl up ⟨po, ?_⟩)
 refine kd [0, 5] rfl ?_
 refine Run.seq ?_
 refine regionD HM ?_
 refine dx [0, 1, 2, 3, 4, 5, 6, 7, 8, 9, 10, 11, 12, 13, 14] ?_
 refine tk 15 rfl rfl rfl (DetJ.sub rfl rfl) ?_
 refine dx [16, 17, 18] ?_
 refine RunD.op 19 [false, false, false, false, false, false, false, false, false, false, false, false, false, false, false, false, false, false, false] rfl rfl rfl kr kr (OpJ.store T43 rfl rfl rfl rfl (by simp [Value.cells, Value.oneCell', Pa.c, Ly.c, Mv.c, Co.c]) up (by simp) ⟨po, ?_⟩)
 refine kd [] rfl ?_
 refine rg 1 [2] ?_
 refine Run.ret ?_
 have hres : sSupp t m c = .ok _ := (by unfold sSupp; rw [hr]; simp only; rw [if_neg h2, if_neg (by assumption)]); refine ret_out (la, lc, (some ⟨b, 0, none⟩), pc) (.tmp rfl .nil) trivial (by rw [hres]; rfl) ?_; rw [hres]; simp only [Aft, List.length_set, List.length_append]; exact gv
theorem ac82 (bx : Nat) (t : Sk) (m : Mv) (c : Co) (la : Option Addr) (nl lc : Nat) (pa : Option Addr) (np pc : Nat) (enl : nl = t.layers.length) (enp : np = t.past.length) (ht : t.ok 999999) (hm : m.ok) : AC Tryz.prog 136 ⟨[.pointer (some ⟨bx, 0, none⟩)]⟩ (stars [pt bx (blk (XC t m c la nl lc pa np pc) 156), own 96 4 la nl lc ((t.layers).flatMap Ly.c), own 98 7 pa np pc ((t.past).flatMap Pa.c)]) (Outs (fun _ : Option Addr × Nat × Option Addr × Nat => True) (fun _ => I (errOf (sLand t m c))) (fun x => Aft 156 96 98 bx m (sLand t m c) x)) := by
 subst enl enp
 have hn : t.layers.length ≤ 1000000 ∧ t.past.length ≤ 1000000 := ⟨Nat.le_trans ht.nl (by decide), Nat.le_trans ht.np (by decide)⟩
 have hnl := ht.nl; have hnp := ht.np
 obtain ⟨hm1, hm2⟩ := hm
 refine eo Tryz.func136 fun β => ?_
 refine rg 1 [0] ?_
 refine Run.seq ?_
 refine sr ?_
 refine sx 1 ?_
 refine RunL.call C117 rfl rfl rfl (ac117 bx t m c la _ lc pa _ pc _ rfl rfl (by decide) hn) tks ?_
 refine sx 5 ?_
 refine kq [0, 4] ?_
 refine rg 2 [0, 4, 11] ?_
 refine cnd rfl (fun h1 => ?_) fun h1 => ?_
 refine sr ?_
 obtain ⟨e, he⟩ := errOf_ne h1
 refine sx 2 ?_
 refine kq [2] ?_
 refine Run.ret ?_
 have hres : sLand t m c = .error e := (by unfold sLand; rw [he]); rw [he]; refine ret_out (none, 0, none, 0) (.tmp rfl .nil) trivial (by rw [hres]; rfl) ?_; rw [hres]; exact gv
 refine Run.skip ?_
 refine sr ?_
 obtain ⟨i, p, hr, hx⟩ := refd_ok (Decidable.not_not.1 h1)
 refine sx 10 ?_
 refine kq [] ?_
 refine rg 1 [2] ?_
 refine Run.ret ?_
 have hres : sLand t m c = .ok _ := (by unfold sLand; rw [hr]); refine ret_out (la, lc, pa, pc) (.tmp rfl .nil) trivial (by rw [hres]; rfl) ?_; rw [hres]; simp only [Aft, List.length_set, List.length_append]; exact gv
theorem ac83 (bx : Nat) (t : Sk) (m : Mv) (c : Co) (la : Option Addr) (nl lc : Nat) (pa : Option Addr) (np pc : Nat) (enl : nl = t.layers.length) (enp : np = t.past.length) (ht : t.ok 999999) (hm : m.ok) : AC Tryz.prog 137 ⟨[.pointer (some ⟨bx, 0, none⟩)]⟩ (stars [pt bx (blk (XC t m c la nl lc pa np pc) 156), own 96 4 la nl lc ((t.layers).flatMap Ly.c), own 98 7 pa np pc ((t.past).flatMap Pa.c)]) (Outs (fun _ : Option Addr × Nat × Option Addr × Nat => True) (fun _ => I (errOf (sRepr t m c))) (fun x => Aft 156 96 98 bx m (sRepr t m c) x)) := by
 subst enl enp
 have hn : t.layers.length ≤ 1000000 ∧ t.past.length ≤ 1000000 := ⟨Nat.le_trans ht.nl (by decide), Nat.le_trans ht.np (by decide)⟩
 have hnl := ht.nl; have hnp := ht.np
 obtain ⟨hm1, hm2⟩ := hm
 refine eo Tryz.func137 fun β => ?_
 refine rg 1 [0] ?_
 refine Run.seq ?_
 refine regionD HM ?_
 refine dx [0, 1, 2, 3, 4, 5, 6, 7, 8, 9] ?_
 refine RunD.op 10 [false, false, false, true, true, false, false, false, true, true] rfl rfl rfl kr kr (OpJ.callRet C119 rfl rfl (ac119 _ _ hm2 ht.pr) .nil ⟨po, ?_⟩)
 refine dx [11, 12, 13, 14, 15] ?_
 refine kd [0, 3, 4] rfl ?_
 refine sr ?_
 refine sx 6 ?_
 refine RunL.call C120 rfl rfl rfl (ac120 _ _ ht.q subN_i64) .nil ?_
 refine sx 5 ?_
 refine kq [0, 4, 5, 6] ?_
 refine Run.seq ?_
 refine sr ?_
 refine RunL.cut (t := 41) (v := Bo (!subOk m.cost t.price || !mulOk t.qty (subN m.cost t.price) || !withinB (reprV t m))) (kt (ks := [0, 5]) rfl) ?_ ?_
 refine sx 3 ?_
 refine spl 33 rfl (fun g1 => ?_) fun g1 => ?_
 refine sx 8 ?_
 exact RunL.nil ⟨.cons (by first | rfl | (show some (Value.bool _) = some (Value.bool _); simp [reprV, *]; done) | (show some (Value.bool _) = some (Value.bool _); simp_all)) (kt (ks := [0, 5]) rfl), rfl⟩
 refine sx 4 ?_
 refine spl 37 rfl (fun g2 => ?_) fun g2 => ?_
 refine sx 4 ?_
 exact RunL.nil ⟨.cons (by first | rfl | (show some (Value.bool _) = some (Value.bool _); simp [reprV, *]; done) | (show some (Value.bool _) = some (Value.bool _); simp_all)) (kt (ks := [0, 5]) rfl), rfl⟩
 refine sx 1 ?_
 refine RunL.callG C48 rfl rfl rfl rfl rfl (ac48 _) .nil ?_
 refine sx 2 ?_
 exact RunL.nil ⟨.cons (by first | rfl | (show some (Value.bool _) = some (Value.bool _); simp [reprV, *]; done) | (show some (Value.bool _) = some (Value.bool _); simp_all)) (kt (ks := [0, 5]) rfl), rfl⟩
 refine cnd rfl (fun h3 => ?_) fun h3 => ?_
 refine rg 1 [2] ?_
 refine Run.ret ?_
 have hres : sRepr t m c = .error _ := (by unfold sRepr; exact if_pos (by assumption)); refine ret_out (none, 0, none, 0) (.tmp rfl .nil) trivial (by rw [hres]; rfl) ?_; rw [hres]; exact gv
 refine Run.skip ?_
 refine rg 10 [0, 5] ?_
 refine rg 8 [] ?_
 refine rg 1 [2] ?_
 refine Run.ret ?_
 have hres : sRepr t m c = .ok _ := (by unfold sRepr; exact if_neg (Bool.eq_false_iff.1 (by assumption))); refine ret_out (la, lc, pa, pc) (.tmp rfl .nil) trivial (by rw [hres]; rfl) ?_; rw [hres]; simp only [Aft, List.length_set, List.length_append]; exact gv
end
end Go.Proofs.YtcpghpifbgpkjaaGreatDoor

namespace Go.Proofs.YtcpghpifbgpkjaaGreatDoor
open Go Go.SL Go.Proofs
theorem acs78 (bx : Nat) (t : Sk) (m : Mv) (c : Co) (la : Option Addr) (nl lc : Nat) (pa : Option Addr) (np pc : Nat) (enl : nl = t.layers.length) (enp : np = t.past.length) (ht : t.ok 999999) (hm : m.ok) (hk : m.kind = 1) : AC Tryz.prog 132 ⟨[.pointer (some ⟨bx, 0, none⟩)]⟩ (stars [pt bx (blk (XC t m c la nl lc pa np pc) 156), own 96 4 la nl lc ((t.layers).flatMap Ly.c), own 98 7 pa np pc ((t.past).flatMap Pa.c)]) (Outs (fun _ : Option Addr × Nat × Option Addr × Nat => True) (fun _ => I (errOf (sDo t m c))) (fun x => Aft 156 96 98 bx m (sDo t m c) x)) := by
  rw [sDo_1 hk]; exact ac78 bx t m c la nl lc pa np pc enl enp ht hm
theorem acs79 (bx : Nat) (t : Sk) (m : Mv) (c : Co) (la : Option Addr) (nl lc : Nat) (pa : Option Addr) (np pc : Nat) (enl : nl = t.layers.length) (enp : np = t.past.length) (ht : t.ok 999999) (hm : m.ok) (hk : m.kind = 2) : AC Tryz.prog 133 ⟨[.pointer (some ⟨bx, 0, none⟩)]⟩ (stars [pt bx (blk (XC t m c la nl lc pa np pc) 156), own 96 4 la nl lc ((t.layers).flatMap Ly.c), own 98 7 pa np pc ((t.past).flatMap Pa.c)]) (Outs (fun _ : Option Addr × Nat × Option Addr × Nat => True) (fun _ => I (errOf (sDo t m c))) (fun x => Aft 156 96 98 bx m (sDo t m c) x)) := by
  rw [sDo_2 hk]; exact ac79 bx t m c la nl lc pa np pc enl enp ht hm
theorem acs80 (bx : Nat) (t : Sk) (m : Mv) (c : Co) (la : Option Addr) (nl lc : Nat) (pa : Option Addr) (np pc : Nat) (enl : nl = t.layers.length) (enp : np = t.past.length) (ht : t.ok 999999) (hm : m.ok) (hk : m.kind = 3) : AC Tryz.prog 134 ⟨[.pointer (some ⟨bx, 0, none⟩)]⟩ (stars [pt bx (blk (XC t m c la nl lc pa np pc) 156), own 96 4 la nl lc ((t.layers).flatMap Ly.c), own 98 7 pa np pc ((t.past).flatMap Pa.c)]) (Outs (fun _ : Option Addr × Nat × Option Addr × Nat => True) (fun _ => I (errOf (sDo t m c))) (fun x => Aft 156 96 98 bx m (sDo t m c) x)) := by
  rw [sDo_3 hk]; exact ac80 bx t m c la nl lc pa np pc enl enp ht hm
theorem acs81 (bx : Nat) (t : Sk) (m : Mv) (c : Co) (la : Option Addr) (nl lc : Nat) (pa : Option Addr) (np pc : Nat) (enl : nl = t.layers.length) (enp : np = t.past.length) (ht : t.ok 999999) (hm : m.ok) (hk : m.kind = 4) : AC Tryz.prog 135 ⟨[.pointer (some ⟨bx, 0, none⟩)]⟩ (stars [pt bx (blk (XC t m c la nl lc pa np pc) 156), own 96 4 la nl lc ((t.layers).flatMap Ly.c), own 98 7 pa np pc ((t.past).flatMap Pa.c)]) (Outs (fun _ : Option Addr × Nat × Option Addr × Nat => True) (fun _ => I (errOf (sDo t m c))) (fun x => Aft 156 96 98 bx m (sDo t m c) x)) := by
  rw [sDo_4 hk]; exact ac81 bx t m c la nl lc pa np pc enl enp ht hm
theorem acs82 (bx : Nat) (t : Sk) (m : Mv) (c : Co) (la : Option Addr) (nl lc : Nat) (pa : Option Addr) (np pc : Nat) (enl : nl = t.layers.length) (enp : np = t.past.length) (ht : t.ok 999999) (hm : m.ok) (hk : m.kind = 5) : AC Tryz.prog 136 ⟨[.pointer (some ⟨bx, 0, none⟩)]⟩ (stars [pt bx (blk (XC t m c la nl lc pa np pc) 156), own 96 4 la nl lc ((t.layers).flatMap Ly.c), own 98 7 pa np pc ((t.past).flatMap Pa.c)]) (Outs (fun _ : Option Addr × Nat × Option Addr × Nat => True) (fun _ => I (errOf (sDo t m c))) (fun x => Aft 156 96 98 bx m (sDo t m c) x)) := by
  rw [sDo_5 hk]; exact ac82 bx t m c la nl lc pa np pc enl enp ht hm
theorem acs83 (bx : Nat) (t : Sk) (m : Mv) (c : Co) (la : Option Addr) (nl lc : Nat) (pa : Option Addr) (np pc : Nat) (enl : nl = t.layers.length) (enp : np = t.past.length) (ht : t.ok 999999) (hm : m.ok) (hk : ¬ m.kind = 1 ∧ ¬ m.kind = 2 ∧ ¬ m.kind = 3 ∧ ¬ m.kind = 4 ∧ ¬ m.kind = 5) : AC Tryz.prog 137 ⟨[.pointer (some ⟨bx, 0, none⟩)]⟩ (stars [pt bx (blk (XC t m c la nl lc pa np pc) 156), own 96 4 la nl lc ((t.layers).flatMap Ly.c), own 98 7 pa np pc ((t.past).flatMap Pa.c)]) (Outs (fun _ : Option Addr × Nat × Option Addr × Nat => True) (fun _ => I (errOf (sDo t m c))) (fun x => Aft 156 96 98 bx m (sDo t m c) x)) := by
  rw [sDo_6 hk]; exact ac83 bx t m c la nl lc pa np pc enl enp ht hm
section
attribute [local irreducible] OpJ RunL Run RunD DetJ pt own star Rd RdS
theorem ac46 (bx : Nat) (t : Sk) (m : Mv) (c : Co) (la : Option Addr) (nl lc : Nat) (pa : Option Addr) (np pc : Nat) (enl : nl = t.layers.length) (enp : np = t.past.length) (ht : t.ok 999999) (hm : m.ok) : AC Tryz.prog 103 ⟨[.pointer (some ⟨bx, 0, none⟩)]⟩ (stars [pt bx (blk (XC t m c la nl lc pa np pc) 156), own 96 4 la nl lc ((t.layers).flatMap Ly.c), own 98 7 pa np pc ((t.past).flatMap Pa.c)]) (Outs (fun _ : Option Addr × Nat × Option Addr × Nat => True) (fun _ => I (errOf (sDo t m c))) (fun x => Aft 156 96 98 bx m (sDo t m c) x)) := by
 subst enl enp
 have hn : t.layers.length ≤ 1000000 ∧ t.past.length ≤ 1000000 := ⟨Nat.le_trans ht.nl (by decide), Nat.le_trans ht.np (by decide)⟩
 have hnl := ht.nl; have hnp := ht.np
 obtain ⟨hm1, hm2⟩ := hm
 refine eo Tryz.func103 fun β => ?_
 refine rg 1 [0] ?_
 refine Run.seq ?_
 refine rg 5 [0, 7] ?_
 refine Run.block ?_
 refine rg 2 [0, 7, 8] ?_
 refine cnd rfl (fun h1 => ?_) fun h1 => ?_
 refine sr ?_
 refine sx 1 ?_
 refine RunL.callX C78 rfl rfl rfl (acs78 bx t m c la _ lc pa _ pc rfl rfl ht ⟨hm1, hm2⟩ (by assumption)) tks fun x _ => ?_
 refine sx 1 ?_
 refine kq [2] ?_
 refine Run.ret ?_
 refine ret_out x (.tmp rfl .nil) trivial rfl ?_; simp only [List.append_nil]; exact Gives.refl _
 refine rg 2 [0, 7, 12] ?_
 refine cnd rfl (fun h2 => ?_) fun h2 => ?_
 refine sr ?_
 refine sx 1 ?_
 refine RunL.callX C79 rfl rfl rfl (acs79 bx t m c la _ lc pa _ pc rfl rfl ht ⟨hm1, hm2⟩ (by assumption)) tks fun x _ => ?_
 refine sx 1 ?_
 refine kq [2] ?_
 refine Run.ret ?_
 refine ret_out x (.tmp rfl .nil) trivial rfl ?_; simp only [List.append_nil]; exact Gives.refl _
 refine rg 2 [0, 7, 16] ?_
 refine cnd rfl (fun h3 => ?_) fun h3 => ?_
 refine sr ?_
 refine sx 1 ?_
 refine RunL.callX C80 rfl rfl rfl (acs80 bx t m c la _ lc pa _ pc rfl rfl ht ⟨hm1, hm2⟩ (by assumption)) tks fun x _ => ?_
 refine sx 1 ?_
 refine kq [2] ?_
 refine Run.ret ?_
 refine ret_out x (.tmp rfl .nil) trivial rfl ?_; simp only [List.append_nil]; exact Gives.refl _
 refine rg 2 [0, 7, 20] ?_
 refine cnd rfl (fun h4 => ?_) fun h4 => ?_
 refine sr ?_
 refine sx 1 ?_
 refine RunL.callX C81 rfl rfl rfl (acs81 bx t m c la _ lc pa _ pc rfl rfl ht ⟨hm1, hm2⟩ (by assumption)) tks fun x _ => ?_
 refine sx 1 ?_
 refine kq [2] ?_
 refine Run.ret ?_
 refine ret_out x (.tmp rfl .nil) trivial rfl ?_; simp only [List.append_nil]; exact Gives.refl _
 refine rg 2 [0, 24] ?_
 refine cnd rfl (fun h5 => ?_) fun h5 => ?_
 refine sr ?_
 refine sx 1 ?_
 refine RunL.callX C82 rfl rfl rfl (acs82 bx t m c la _ lc pa _ pc rfl rfl ht ⟨hm1, hm2⟩ (by assumption)) tks fun x _ => ?_
 refine sx 1 ?_
 refine kq [2] ?_
 refine Run.ret ?_
 refine ret_out x (.tmp rfl .nil) trivial rfl ?_; simp only [List.append_nil]; exact Gives.refl _
 refine Run.skip ?_
 refine sr ?_
 refine sx 1 ?_
 refine RunL.callX C83 rfl rfl rfl (acs83 bx t m c la _ lc pa _ pc rfl rfl ht ⟨hm1, hm2⟩ (by refine ⟨?_, ?_, ?_, ?_, ?_⟩ <;> assumption)) tks fun x _ => ?_
 refine sx 1 ?_
 refine kq [2] ?_
 refine Run.ret ?_
 refine ret_out x (.tmp rfl .nil) trivial rfl ?_; simp only [List.append_nil]; exact Gives.refl _
theorem ac22 (s : Sk) (m : Mv) (la : Option Addr) (lc : Nat) (pa : Option Addr) (pc : Nat) (RL RP : HP) (hs : s.ok 999999) (hm : m.ok) (hRL : RdS RL la (s.layers.flatMap Ly.c)) (hRP : RdS RP pa (s.past.flatMap Pa.c)) (R0 : HP) (hR0 : Rd R0 ⟨0, 0, none⟩ lensC) : AC Tryz.prog 74 ⟨[.agg ⟨s.c la lc pa pc⟩, .agg ⟨m.c⟩]⟩ (stars [RL, RP, R0]) (Outs (fun _ : Option Addr × Nat × Option Addr × Nat => True) (fun x => StV (sStep s m) x) (fun x => StB 96 98 (sStep s m) x ++ [RL, RP, R0])) := by
 have hn : s.layers.length ≤ 1000000 ∧ s.past.length ≤ 1000000 := ⟨Nat.le_trans hs.nl (by decide), Nat.le_trans hs.np (by decide)⟩
 have hnl := hn.1; have hnp := hn.2
 refine eo Tryz.func74 fun β => ?_
 refine sr ?_
 refine obx rfl fun b2 => ?_
 refine obx rfl fun b3 => ?_
 refine oal fun b4 => ?_
 refine oal fun b5 => ?_
 refine sx 1 ?_
 refine kq [2, 3, 4, 5] ?_
 refine Run.seq ?_
 refine sr ?_
 refine sx 1 ?_
 refine RunL.call C30 rfl rfl rfl (ac30 _ _ hR0) tks ?_
 refine sx 1 ?_
 refine kq [2, 3, 4, 5, 7] ?_
 refine rg 2 [2, 3, 4, 5, 7, 15] ?_
 refine cnd rfl (fun h1 => ?_) fun h1 => ?_
 refine Run.seq ?_
 refine regionD HM ?_
 refine dx [0, 1, 2] ?_
 refine dsw 3 [true, true, false] ?_
 refine dsw 4 [true, false] ?_
 refine dx [5] ?_
 refine kd [4, 5, 6] rfl ?_
 refine Run.ret ?_
 have hres2 : sStep s m = .error m.one := (by unfold sStep; rw [if_pos h1]); refine ret_out (none, 0, none, 0) (.cellA T28 rfl pk (by rfl) (.cellA T43 rfl pk (by rfl) (.tmp rfl .nil))) trivial (by rw [hres2]; rfl) ?_; rw [hres2]; exact gv
 refine Run.skip ?_
 refine Run.seq ?_
 refine sr ?_
 refine RunL.cutG (t := 34) (v := Bo (decide (0 ≤ idxOf (findI (isPast 1 m.seq) s.past)) || decide (0 ≤ idxOf (findI (isPast 2 m.seq) s.past)))) (kt (ks := [2, 3, 4, 5]) rfl) ?_ ?_
 refine sx 5 ?_
 refine RunL.call C44 rfl rfl rfl (ac44k _ _ _ s.past _ m.seq hRP (by omega) (by decide)) tks ?_
 refine sx 2 ?_
 refine spl 26 rfl (fun g2 => ?_) fun g2 => ?_
 refine sx 8 ?_
 exact RunL.nil ⟨.cons (by first | rfl | (show some (Value.bool _) = some (Value.bool _); simp [*]; done) | (show some (Value.bool _) = some (Value.bool _); simp_all)) (kt (ks := [2, 3, 4, 5]) rfl), gv⟩
 refine sx 5 ?_
 refine RunL.callG C44 rfl rfl rfl rfl rfl (ac44k _ _ _ s.past _ m.seq hRP (by omega) (by decide)) tks ?_
 refine sx 2 ?_
 exact RunL.nil ⟨.cons (by first | rfl | (show some (Value.bool _) = some (Value.bool _); simp [*]; done) | (show some (Value.bool _) = some (Value.bool _); simp_all)) (kt (ks := [2, 3, 4, 5]) rfl), gv⟩
 refine cnd rfl (fun h3 => ?_) fun h3 => ?_
 refine Run.seq ?_
 refine regionD HM ?_
 refine dx [0, 1] ?_
 refine dsw 2 [true, false] ?_
 refine dsw 3 [false] ?_
 refine dx [4] ?_
 refine kd [4, 5, 6] rfl ?_
 refine Run.ret ?_
 have hres2 : sStep s m = .error 8 := (by unfold sStep; rw [if_neg h1, if_pos (by rw [← idx_some, ← idx_some]; assumption)]); refine ret_out (none, 0, none, 0) (.cellA T28 rfl pk (by rfl) (.cellA T43 rfl pk (by rfl) (.tmp rfl .nil))) trivial (by rw [hres2]; rfl) ?_; rw [hres2]; exact gv
 refine Run.skip ?_
 refine Run.seq ?_
 refine regionD HM ?_
 refine dx [0, 2] ?_
 refine RunD.op 1 [true, false] rfl rfl rfl kr kr (OpJ.callOuts C45 rfl rfl (ac45 s la lc pa pc RL RP hn hRL hRP) tks fun ⟨bl, bp⟩ _ => ⟨po, ?_⟩)
 refine dx [3] ?_
 refine RunD.op 4 [false, false] rfl rfl rfl kr kr (OpJ.boxA rfl fun b41 => ⟨po, ?_⟩)
 refine dx [5] ?_
 refine kd [2, 3, 4, 5, 8] rfl ?_
 refine Run.seq ?_
 refine sr ?_
 refine sx 1 ?_
 refine RunL.callX C46 rfl rfl rfl (ac46 b41 s m ⟨0, 0, 0, 0⟩ _ _ _ _ _ _ rfl rfl hs hm) tks fun ⟨la2, lc2, pa2, pc2⟩ _ => ?_
 rcases hres : sDo s m ⟨0, 0, 0, 0⟩ with e | ⟨t, c⟩
 refine sx 1 ?_
 refine kq [2, 3, 4, 5, 8, 9] ?_
 refine sr ?_
 refine sx 2 ?_
 first | refine RunL.set (congrArg Value.bool (decide_eq_true (show errOf (Except.error _) ≠ 0 from sDo_err hres))) ?_ | skip
 refine kq [2, 3, 4, 5, 8, 9, 45] ?_
 refine Run.true rfl ?_
 refine Run.seq ?_
 refine regionD HM ?_
 refine dx [0, 1, 2] ?_
 refine dsw 3 [true, true, false] ?_
 refine dsw 4 [true, false] ?_
 refine dx [5] ?_
 refine kd [4, 5, 6] rfl ?_
 refine Run.ret ?_
 have hres2 : sStep s m = .error e := (by unfold sStep; rw [if_neg h1, if_neg (by rw [← idx_some, ← idx_some]; simp only [*]; decide), hres]); refine ret_out (none, 0, none, 0) (.cellA T28 rfl pk (by rfl) (.cellA T43 rfl pk (by rfl) (.tmp rfl .nil))) trivial (by rw [hres2]; rfl) ?_; rw [hres2]; exact gv
 have hto := sDo_ok hs hm hres
 refine sx 1 ?_
 refine kq [2, 3, 4, 5, 8, 9] ?_
 refine sr ?_
 refine sx 2 ?_
 first | refine RunL.set (congrArg Value.bool (decide_eq_true (show errOf (Except.error _) ≠ 0 from sDo_err hres))) ?_ | skip
 refine kq [2, 3, 4, 5, 8, 9, 45] ?_
 refine Run.false rfl ?_
 refine Run.skip ?_
 refine rg 7 [2, 4, 5, 8] ?_
 refine Run.seq ?_
 refine regionD HM ?_
 refine dx [0, 1, 2, 3, 4, 5, 6] ?_
 refine RunD.op 7 [false, false, false, true, true, false, false] rfl rfl rfl kr kr (OpJ.callRet C47 rfl rfl (ac47 _ _ hs.v hto.2) .nil ⟨po, ?_⟩)
 refine dx [8, 9, 10, 11, 12] ?_
 refine kd [2, 4, 5, 8, 10, 11] rfl ?_
 refine Run.seq ?_
 refine regionD HM ?_
 refine dx [0, 1, 2, 3, 4, 5, 6, 7, 8] ?_
 refine tk 9 rfl rfl rfl (DetJ.add rfl rfl) ?_
 refine dx [10, 11, 12, 13] ?_
 refine RunD.op 14 [false, false, false, true, false, false, false, false, false, false, false, false, true, false] rfl rfl rfl kr kr (OpJ.store1 T3 rfl rfl rfl up (by simp) ⟨po, ?_⟩)
 refine dx [15, 16, 17] ?_
 refine RunD.op 18 [false, false, false, false, false] rfl rfl rfl kr kr (OpJ.store1 T3 rfl rfl rfl up (by simp) ⟨po, ?_⟩)
 refine kd [4, 5, 8, 10, 11] rfl ?_
 refine Run.seq ?_
 refine sr ?_
 refine sx 3 ?_
 refine spl 85 rfl (fun g4 => ?_) fun g4 => ?_
 refine sx 21 ?_
 refine kq [4, 5, 8, 106] ?_
 refine Run.true rfl ?_
 refine Run.seq ?_
 refine regionD HM ?_
 refine dx [0, 1] ?_
 refine dsw 2 [true, false] ?_
 refine dsw 3 [false] ?_
 refine dx [4] ?_
 refine kd [4, 5, 6] rfl ?_
 refine Run.ret ?_
 first | (have hres2 : sStep s m = .error 4 := (by unfold sStep; rw [if_neg h1, if_neg (by rw [← idx_some, ← idx_some]; simp only [*]; decide), hres]; exact if_pos (by simp [sOver, *])); refine ret_out (none, 0, none, 0) (.cellA T28 rfl pk (by rfl) (.cellA T43 rfl pk (by rfl) (.tmp rfl .nil))) trivial (by rw [hres2]; rfl) ?_; rw [hres2]; exact gv) | (have hres2 : sStep s m = .ok (sSum s t c, { c with seq := m.seq }) := (by unfold sStep; rw [if_neg h1, if_neg (by rw [← idx_some, ← idx_some]; simp only [*]; decide), hres]; exact if_neg (by simp [sOver, *])); refine ret_out (la2, lc2, pa2, pc2) (.cellA T28 rfl pk (by rfl) (.cellA T43 rfl pk (by rfl) (.tmp rfl .nil))) trivial (by rw [hres2]; rfl) ?_; rw [hres2]; exact gv)
 refine sx 8 ?_
 refine spl 93 rfl (fun g5 => ?_) fun g5 => ?_
 refine sx 13 ?_
 refine kq [4, 5, 8, 106] ?_
 refine Run.true rfl ?_
 refine Run.seq ?_
 refine regionD HM ?_
 refine dx [0, 1] ?_
 refine dsw 2 [true, false] ?_
 refine dsw 3 [false] ?_
 refine dx [4] ?_
 refine kd [4, 5, 6] rfl ?_
 refine Run.ret ?_
 first | (have hres2 : sStep s m = .error 4 := (by unfold sStep; rw [if_neg h1, if_neg (by rw [← idx_some, ← idx_some]; simp only [*]; decide), hres]; exact if_pos (by simp [sOver, *])); refine ret_out (none, 0, none, 0) (.cellA T28 rfl pk (by rfl) (.cellA T43 rfl pk (by rfl) (.tmp rfl .nil))) trivial (by rw [hres2]; rfl) ?_; rw [hres2]; exact gv) | (have hres2 : sStep s m = .ok (sSum s t c, { c with seq := m.seq }) := (by unfold sStep; rw [if_neg h1, if_neg (by rw [← idx_some, ← idx_some]; simp only [*]; decide), hres]; exact if_neg (by simp [sOver, *])); refine ret_out (la2, lc2, pa2, pc2) (.cellA T28 rfl pk (by rfl) (.cellA T43 rfl pk (by rfl) (.tmp rfl .nil))) trivial (by rw [hres2]; rfl) ?_; rw [hres2]; exact gv)
 refine sx 1 ?_
 refine RunL.callG C48 rfl rfl rfl rfl rfl (ac48 _) .nil ?_
 refine sx 3 ?_
 refine spl 98 rfl (fun g6 => ?_) fun g6 => ?_
 refine sx 8 ?_
 refine kq [4, 5, 8, 106] ?_
 refine Run.true rfl ?_
 refine Run.seq ?_
 refine regionD HM ?_
 refine dx [0, 1] ?_
 refine dsw 2 [true, false] ?_
 refine dsw 3 [false] ?_
 refine dx [4] ?_
 refine kd [4, 5, 6] rfl ?_
 refine Run.ret ?_
 first | (have hres2 : sStep s m = .error 4 := (by unfold sStep; rw [if_neg h1, if_neg (by rw [← idx_some, ← idx_some]; simp only [*]; decide), hres]; exact if_pos (by simp [sOver, *])); refine ret_out (none, 0, none, 0) (.cellA T28 rfl pk (by rfl) (.cellA T43 rfl pk (by rfl) (.tmp rfl .nil))) trivial (by rw [hres2]; rfl) ?_; rw [hres2]; exact gv) | (have hres2 : sStep s m = .ok (sSum s t c, { c with seq := m.seq }) := (by unfold sStep; rw [if_neg h1, if_neg (by rw [← idx_some, ← idx_some]; simp only [*]; decide), hres]; exact if_neg (by simp [sOver, *])); refine ret_out (la2, lc2, pa2, pc2) (.cellA T28 rfl pk (by rfl) (.cellA T43 rfl pk (by rfl) (.tmp rfl .nil))) trivial (by rw [hres2]; rfl) ?_; rw [hres2]; exact gv)
 refine sx 5 ?_
 refine RunL.callG C48 rfl rfl rfl rfl rfl (ac48 _) .nil ?_
 refine sx 2 ?_
 refine kq [4, 5, 8, 106] ?_
 refine cnd rfl (fun h7 => ?_) fun h7 => ?_
 refine Run.seq ?_
 refine regionD HM ?_
 refine dx [0, 1] ?_
 refine dsw 2 [true, false] ?_
 refine dsw 3 [false] ?_
 refine dx [4] ?_
 refine kd [4, 5, 6] rfl ?_
 refine Run.ret ?_
 first | (have hres2 : sStep s m = .error 4 := (by unfold sStep; rw [if_neg h1, if_neg (by rw [← idx_some, ← idx_some]; simp only [*]; decide), hres]; exact if_pos (by simp [sOver, *])); refine ret_out (none, 0, none, 0) (.cellA T28 rfl pk (by rfl) (.cellA T43 rfl pk (by rfl) (.tmp rfl .nil))) trivial (by rw [hres2]; rfl) ?_; rw [hres2]; exact gv) | (have hres2 : sStep s m = .ok (sSum s t c, { c with seq := m.seq }) := (by unfold sStep; rw [if_neg h1, if_neg (by rw [← idx_some, ← idx_some]; simp only [*]; decide), hres]; exact if_neg (by simp [sOver, *])); refine ret_out (la2, lc2, pa2, pc2) (.cellA T28 rfl pk (by rfl) (.cellA T43 rfl pk (by rfl) (.tmp rfl .nil))) trivial (by rw [hres2]; rfl) ?_; rw [hres2]; exact gv)
 refine Run.skip ?_
 refine Run.seq ?_
 refine regionD HM ?_
 refine dx [0, 1, 2, 3, 4, 5, 6, 7] ?_
 refine dsw 8 [true, true, true, true, false, false, false, false] ?_
 refine dsw 9 [false, false, false, false] ?_
 refine dx [10] ?_
 refine kd [4, 5, 6] rfl ?_
 refine Run.ret ?_
 first | (have hres2 : sStep s m = .error 4 := (by unfold sStep; rw [if_neg h1, if_neg (by rw [← idx_some, ← idx_some]; simp only [*]; decide), hres]; exact if_pos (by simp [sOver, *])); refine ret_out (none, 0, none, 0) (.cellA T28 rfl pk (by rfl) (.cellA T43 rfl pk (by rfl) (.tmp rfl .nil))) trivial (by rw [hres2]; rfl) ?_; rw [hres2]; exact gv) | (have hres2 : sStep s m = .ok (sSum s t c, { c with seq := m.seq }) := (by unfold sStep; rw [if_neg h1, if_neg (by rw [← idx_some, ← idx_some]; simp only [*]; decide), hres]; exact if_neg (by simp [sOver, *])); refine ret_out (la2, lc2, pa2, pc2) (.cellA T28 rfl pk (by rfl) (.cellA T43 rfl pk (by rfl) (.tmp rfl .nil))) trivial (by rw [hres2]; rfl) ?_; rw [hres2]; exact gv)
theorem ac113 (v q n : Int) (hv : i64 v) (hq : i64 q) (hn : i64 n) : AC Tryz.prog 162 ⟨[I v, I q, I n]⟩ (stars []) (Ret (I (partN v q n)) []) := by
 refine eo Tryz.func162 fun β => ?_
 refine rg 1 [0, 1, 2] ?_
 refine Run.seq ?_
 refine rg 3 [0, 1, 2, 11] ?_
 refine cnd rfl (fun h1 => ?_) fun h1 => ?_
 refine rg 2 [6] ?_
 exact .ret (ret_one (.tmp rfl .nil) t0 .nil)
 refine Run.skip ?_
 refine sr ?_
 refine sx 3 ?_
 refine RunL.call C111 rfl rfl rfl (ac111 _ _ _ _ (by omega) (by omega) (by omega)) .nil ?_
 refine sx 5 ?_
 refine kq [7] ?_
 refine rg 2 [6] ?_
 exact .ret (ret_one (.tmp rfl .nil) t0 .nil)
theorem ac40 (bm : Nat) (m : Mv) (p : Pa) : AC Tryz.prog 97 ⟨[.agg ⟨p.c⟩, .pointer (some ⟨bm, 0, none⟩)]⟩ (stars [pt bm (blk m.c 35)]) (Ret (Bo (isPast 0 m.seq p)) [pt bm (blk m.c 35)]) := by
 refine eo Tryz.func97 fun β => ?_
 refine sr ?_
 refine obx rfl fun b2 => ?_
 refine sx 1 ?_
 refine kq [1, 2] ?_
 refine rg 6 [3] ?_
 exact .ret (ret_one (.tmp rfl .nil) (by simp [tup, isPast]) gv)
theorem ac155 (bm bk : Nat) (m : Mv) (kind : Int) (p : Pa) (hk : kind ≠ 0) : AC Tryz.prog 196 ⟨[.agg ⟨p.c⟩, .pointer (some ⟨bm, 0, none⟩), .pointer (some ⟨bk, 0, none⟩)]⟩ (stars [star (pt bm (blk m.c 35)) (pt bk (blk [I kind] 3))]) (Ret (Bo (isPast kind m.ref p)) [star (pt bm (blk m.c 35)) (pt bk (blk [I kind] 3))]) := by
 refine eo Tryz.func196 fun β => ?_
 refine sr ?_
 refine RunL.unpack Pick.here ?_
 refine obx rfl fun b3 => ?_
 refine sx 1 ?_
 refine kq [1, 2, 3] ?_
 refine sr ?_
 refine sx 6 ?_
 refine spl 10 rfl (fun g1 => ?_) fun g1 => ?_
 refine sx 6 ?_
 refine RunL.pack (A := pt bm (blk m.c 35)) (B := pt bk (blk [I kind] 3)) pk pk ?_
 refine kq [4] ?_
 refine Run.ret ?_
 exact ret_one (.tmp rfl .nil) (by rw [isPast_eq hk]; simp [tup, *]) gv
 refine sx 6 ?_
 refine RunL.pack (A := pt bm (blk m.c 35)) (B := pt bk (blk [I kind] 3)) pk pk ?_
 refine kq [4] ?_
 refine Run.ret ?_
 exact ret_one (.tmp rfl .nil) (by rw [isPast_eq hk]; simp [tup, *]) gv
theorem ac71 (RP RA : HP) (g : FuncId) (capv : List Value) (f : Pa → Bool) (oa : Option Addr) (cap : Nat) (ps : List Pa) (hR : RdS RP oa (ps.flatMap Pa.c)) (hlen : ps.length ≤ 1000000) (Cg : CI Tryz.prog g) (hg : ∀ p : Pa, AC Tryz.prog g ⟨[.agg ⟨p.c⟩] ++ capv⟩ (stars [RA]) (Ret (Bo (f p)) [RA])) : AC Tryz.prog 126 ⟨[.slice oa ps.length cap, .func (.func g) ⟨[]⟩ ⟨capv⟩]⟩ (stars [RP, RA]) (Ret (I (idxOf (findI f ps))) [RP, RA]) := by
 refine eo Tryz.func126 fun β => ?_
 refine rg 1 [0, 1] ?_
 refine Run.seq ?_
 refine rg 3 [0, 1, 7, 8] ?_
 refine Run.block ?_
 refine Run.loop (fun mm E L => ∃ i : Nat, mm = ps.length - i ∧ i ≤ ps.length ∧ (∀ j y, j < i → ps[j]? = some y → f y = false) ∧ E = [(0, .slice oa ps.length cap), (1, .func (.func g) ⟨[]⟩ ⟨capv⟩), (7, I ps.length), (8, I i)] ∧ L = [RP, RA]) ⟨_, 0, rfl, Nat.zero_le _, fun _ _ h => by omega, rfl, rfl⟩ ?_
 rintro _ _ _ ⟨i, rfl, hi, hI0, rfl, rfl⟩
 refine rg 1 [0, 1, 7, 8, 9] ?_
 refine Run.seq ?_
 refine cnd rfl (fun h1 => ?_) fun h1 => ?_
 refine Run.skip ?_
 refine Run.seq ?_
 refine Run.block ?_
 refine rg 2 [0, 1, 5, 7, 8] ?_
 refine sr ?_
 obtain ⟨x, hx⟩ := get_ex (xs := ps) (by omega)
 refine RunL.rdOpen pk hR (flat_ne (k := 7) (fun _ => rfl) (by decide) hx) fun b o e hrd => ?_
 subst e
 refine sx 4 ?_
 refine RunL.op rfl rfl (OpJ.loadA T66 rfl pk (hrd.elem (fun _ => rfl) hx) rfl ?_)
 refine RunL.call Cg rfl rfl rfl (hg x) tks ?_
 refine kq [0, 1, 5, 7, 8, 16] ?_
 refine cnd rfl (fun h2 => ?_) fun h2 => ?_
 refine rg 2 [4] ?_
 refine Run.ret ?_
 exact ret_one (.tmp rfl .nil) (congrArg I (by rw [findI_at hx (by assumption) hI0]; rfl)) gv
 refine Run.skip ?_
 refine Run.region ?_
 refine sx 2 ?_
 exact RunL.next (Keep.sub (kt (ks := [0, 1, 7, 8]) rfl)) _ ⟨_, by omega, i + 1, rfl, by omega, notYet hx (by assumption) hI0, rfl, rfl⟩ gv
 refine Run.exit ?_
 refine rg 1 [4] ?_
 refine Run.ret ?_
 exact ret_one (.tmp rfl .nil) (congrArg I (by rw [findI_none (fun j y hj => hI0 j y (by omega))]; rfl)) gv
theorem ac39 (RP RA : HP) (g : FuncId) (capv : List Value) (f : Pa → Bool) (oa : Option Addr) (cap : Nat) (ps : List Pa) (hR : RdS RP oa (ps.flatMap Pa.c)) (hlen : ps.length ≤ 1000000) (Cg : CI Tryz.prog g) (hg : ∀ p : Pa, AC Tryz.prog g ⟨[.agg ⟨p.c⟩] ++ capv⟩ (stars [RA]) (Ret (Bo (f p)) [RA])) : AC Tryz.prog 96 ⟨[.slice oa ps.length cap, .func (.func g) ⟨[]⟩ ⟨capv⟩]⟩ (stars [RP, RA]) (Ret (I (idxOf (findI f ps))) [RP, RA]) := by
 refine eo Tryz.func96 fun β => ?_
 refine rg 1 [0, 1] ?_
 refine sr ?_
 refine sx 2 ?_
 refine RunL.call C71 rfl rfl rfl (ac71 RP RA g capv f oa cap ps hR hlen Cg hg) tks ?_
 refine sx 1 ?_
 refine kq [4] ?_
 exact .ret (ret_one (.tmp rfl .nil) (by simp [tup, *]) gv)
theorem ac72 (R : HP) (oa : Option Addr) (cap : Nat) (ls : List Ly) (hR : RdS R oa (ls.flatMap Ly.c)) (hlen : ls.length ≤ 1000000) : AC Tryz.prog 44 ⟨[.slice oa ls.length cap]⟩ (stars [R]) (Outs (fun _ : Option Addr × Nat => True) (fun x => .slice x.1 ls.length x.2) (fun x => [own 96 4 x.1 ls.length x.2 (ls.flatMap Ly.c), R])) := by
 refine eo Tryz.func44 fun β => ?_
 refine rg 1 [0] ?_
 refine Run.seq ?_
 refine rg 2 [0, 4] ?_
 refine cnd rfl (fun h1 => ?_) fun h1 => ?_
 refine sr ?_
 by_cases hne : ls.flatMap Ly.c ≠ []
 refine RunL.rdOpen pk hR hne fun b o e hrd => ?_
 rw [e] at h1
 cases h1
 obtain rfl : ls = [] := by
   cases ls with
   | nil => rfl
   | cons l ls => exact absurd (by simp [Ly.c]) hne
 refine RunL.ownNil 96 4 ?_
 refine sx 1 ?_
 refine kq [2] ?_
 exact .ret (ret_out (none, 0) (.tmp rfl .nil) trivial rfl gv)
 refine Run.skip ?_
 refine sr ?_
 refine RunL.op rfl rfl (OpJ.buildSlice0 S25 fun b5 => ?_)
 refine sx 1 ?_
 refine RunL.op rfl rfl (OpJ.appendAll S25 M64 rfl rfl pk pk hR (flat_len (enc := Ly.c) (k := 4) (fun _ => rfl) _) (by decide) (flat_one Ly.one _) (by omega) (by omega) fun a7 c7 => ?_)
 simp only [Nat.zero_add, List.nil_append]
 refine sx 1 ?_
 refine kq [2] ?_
 exact .ret (ret_out (a7, c7) (.tmp rfl .nil) trivial rfl gv)
theorem ac41 (s : Sk) (la : Option Addr) (lc : Nat) (pa : Option Addr) (pc : Nat) (RL RP : HP) (hn : s.layers.length ≤ 1000000 ∧ s.past.length ≤ 1000000) (hRL : RdS RL la (s.layers.flatMap Ly.c)) (hRP : RdS RP pa (s.past.flatMap Pa.c)) : AC Tryz.prog 98 ⟨[.agg ⟨s.c la lc pa pc⟩]⟩ (stars [RL, RP]) (Outs (fun _ : Option Addr × Nat × Nat => True) (fun x => .agg ⟨s.c x.1 x.2.1 (some ⟨x.2.2, 0, none⟩) s.past.length⟩) (fun x => [own 96 4 x.1 s.layers.length x.2.1 ((s.layers).flatMap Ly.c), own 98 7 (some ⟨x.2.2, 0, none⟩) s.past.length s.past.length ((s.past).flatMap Pa.c), RL, RP])) := by
 have hnl := hn.1; have hnp := hn.2
 refine eo Tryz.func98 fun β => ?_
 refine sr ?_
 refine obx rfl fun b1 => ?_
 refine oal fun b2 => ?_
 refine kq [1, 2] ?_
 refine sr ?_
 refine sx 3 ?_
 refine RunL.op rfl rfl (OpJ.make S26 M66 rfl rfl (by omega) (by omega) fun b7 => ?_)
 refine sx 1 ?_
 refine kq [1, 2, 3] ?_
 refine sr ?_
 refine sx 3 ?_
 refine RunL.op rfl rfl (OpJ.copyAll S26 rfl rfl up pk hRP (flat_len (enc := Pa.c) (k := 7) (fun _ => rfl) _) (by simp) (flat_one Pa.one _) ?_)
 refine kq [1, 2, 3] ?_
 refine rg 3 [1, 2] ?_
 refine sr ?_
 refine sx 2 ?_
 refine RunL.callX C72 rfl rfl rfl (ac72 RL la lc s.layers hRL hnl) tks fun ⟨l2, c2⟩ _ => ?_
 refine sx 2 ?_
 refine kq [1, 2] ?_
 refine rg 2 [2] ?_
 exact .ret (ret_out (l2, c2, b7) (.cellA T28 rfl pk (by rfl) .nil) trivial rfl gv)
theorem ac114 (bx : Nat) (t : Sk) (m : Mv) (la : Option Addr) (nl lc : Nat) (pa : Option Addr) (np pc : Nat) (kind : Int) (enp : np = t.past.length) (hk : kind ≠ 0) (hn : t.past.length ≤ 1000000) : AC Tryz.prog 163 ⟨[.pointer (some ⟨bx, 0, none⟩), .agg ⟨m.c⟩, I kind]⟩ (stars [pt bx (blk (SC t la nl lc pa np pc) 61), own 98 7 pa np pc ((t.past).flatMap Pa.c)]) (Ret (.tuple ⟨[I (okIdx (refd kind m t.past)), I (errOf (refd kind m t.past))]⟩) [pt bx (blk (SC t la nl lc pa np pc) 61), own 98 7 pa np pc ((t.past).flatMap Pa.c)]) := by
 subst enp
 refine eo Tryz.func163 fun β => ?_
 refine sr ?_
 refine obx rfl fun b4 => ?_
 refine RunL.op rfl rfl (OpJ.box rfl rfl fun b5 => ?_)
 refine sx 2 ?_
 refine kq [0, 4, 5] ?_
 refine sr ?_
 refine sx 5 ?_
 refine RunL.pack (A := pt b4 (blk m.c 35)) (B := pt b5 (blk [I kind] 3)) pk pk ?_
 refine RunL.call C39 rfl rfl rfl (ac39 (own 98 7 pa t.past.length pc ((t.past).flatMap Pa.c)) (star (pt b4 (blk m.c 35)) (pt b5 (blk [I kind] 3))) 196 [.pointer (some ⟨b4, 0, none⟩), .pointer (some ⟨b5, 0, none⟩)] (isPast kind m.ref) pa pc t.past own.rds hn C155 (fun p => ac155 b4 b5 m kind p hk)) tks ?_
 refine RunL.unpack (A := pt b4 (blk m.c 35)) (B := pt b5 (blk [I kind] 3)) pk ?_
 refine sx 1 ?_
 refine kq [0, 4, 6] ?_
 refine Run.seq ?_
 refine sr ?_
 refine sx 2 ?_
 rcases hf : findI (isPast kind m.ref) t.past with _ | ⟨i, p⟩
 refine kq [0, 4, 6, 16] ?_
 refine Run.true rfl ?_
 refine rg 2 [6, 7] ?_
 exact .ret (ret_one (.tmp rfl (.tmp rfl .nil)) (by simp [tup, refd, hf, okIdx, errOf, idxOf, *]) gv)
 obtain ⟨hx, _⟩ := findI_some hf
 have hi := (List.getElem?_eq_some_iff.1 hx).1
 refine RunL.ownAddr pk (flat_ne (k := 7) (fun _ => rfl) (by decide) hx) fun b e hcap => ?_
 subst e
 simp only [idxOf]
 refine sF (show ¬ ((i : Int) < 0) by omega) ?_
 refine kq [0, 4, 6, 16] ?_
 refine Run.false rfl ?_
 refine Run.skip ?_
 refine Run.seq ?_
 refine sr ?_
 refine sx 7 ?_
 refine oal fun b8 => ?_
 refine sx 1 ?_
 refine kq [4, 6, 8] ?_
 refine sr ?_
 refine sx 6 ?_
 refine RunL.op rfl rfl (OpJ.sub rfl rfl ?_)
 refine sx 1 ?_
 refine kq [6, 31] ?_
 refine cnd rfl (fun h1 => ?_) fun h1 => ?_
 refine rg 2 [6, 7] ?_
 exact .ret (ret_one (.tmp rfl (.tmp rfl .nil)) (by simp [tup, refd, hf, okIdx, errOf, idxOf, *]) gv)
 refine Run.skip ?_
 refine rg 3 [6, 7] ?_
 exact .ret (ret_one (.tmp rfl (.tmp rfl .nil)) (by simp [tup, refd, hf, okIdx, errOf, idxOf, *]) gv)
end
end Go.Proofs.YtcpghpifbgpkjaaGreatDoor
