/- Laws of the walks and of the models, part 5 (merged by program). -/
import Derived.Test.YtcpghpifbgpkjaaGreatDoorC4
set_option linter.unusedVariables false
set_option linter.unusedSimpArgs false
set_option maxRecDepth 20000
set_option maxHeartbeats 4000000
namespace Go.Proofs.YtcpghpifbgpkjaaGreatDoor
open Go Go.SL Go.Proofs
theorem ac169m (m c : Int) (h0 : 0 ≤ m) (h1 : m < 340282366920938463463374607431768211456) (hc : 0 < c) (hcu : u64 c) : AC Tryz.prog 207 ⟨[U (m / 18446744073709551616), U (m % 18446744073709551616), U c]⟩ (stars []) (Ret (.tuple ⟨[U (m / c / 18446744073709551616), U (m / c % 18446744073709551616), U (m % c)]⟩) []) := by
  have h := ac169 (m / 18446744073709551616) (m % 18446744073709551616) c (by omega) (by omega) hc hcu
  rw [show m / 18446744073709551616 * 18446744073709551616 + m % 18446744073709551616 = m by omega] at h
  exact h
section
attribute [local irreducible] OpJ RunL Run RunD DetJ pt own star Rd RdS
theorem ac140 (a b : Int) (ha : i64 a) (hb : i64 b) : AC Tryz.prog 184 ⟨[I a, I b]⟩ (stars []) (Ret (.tuple ⟨[I (mulN a b), Bo (mulOk a b)]⟩) []) := by
 have ua := mag_u64 ha; have ub := mag_u64 hb
 refine eo Tryz.func184 fun β => ?_
 refine rg 2 [0, 1] ?_
 refine sr ?_
 refine sx 1 ?_
 refine RunL.call C166 rfl rfl rfl (ac166 _ (by omega)) .nil ?_
 refine sx 1 ?_
 refine RunL.call C166 rfl rfl rfl (ac166 _ (by omega)) .nil ?_
 refine sx 2 ?_
 refine kq [0, 1, 6, 7] ?_
 refine sr ?_
 refine RunL.cut (t := 8) (v := Bo (decide (a * b < 0))) (kt (ks := [6, 7]) rfl) ?_ ?_
 refine sx 3 ?_
 refine spl 16 rfl (fun g1 => ?_) fun g1 => ?_
 refine sx 4 ?_
 refine spl 20 rfl (fun g2 => ?_) fun g2 => ?_
 refine sx 8 ?_
 exact RunL.nil ⟨.cons (by first | rfl | (show some (Value.bool _) = some (Value.bool _); exact congrArg some (congrArg Value.bool (by rw [Bool.eq_iff_iff]; simp [mneg] <;> omega))) | (show some (Value.bool _) = some (Value.bool _); simp_all)) (kt (ks := [6, 7]) rfl), rfl⟩
 refine sx 3 ?_
 refine spl 23 rfl (fun g3 => ?_) fun g3 => ?_
 refine sx 5 ?_
 exact RunL.nil ⟨.cons (by first | rfl | (show some (Value.bool _) = some (Value.bool _); exact congrArg some (congrArg Value.bool (by rw [Bool.eq_iff_iff]; simp [mneg] <;> omega))) | (show some (Value.bool _) = some (Value.bool _); simp_all)) (kt (ks := [6, 7]) rfl), rfl⟩
 refine sx 5 ?_
 exact RunL.nil ⟨.cons (by first | rfl | (show some (Value.bool _) = some (Value.bool _); exact congrArg some (congrArg Value.bool (by rw [Bool.eq_iff_iff]; simp [mneg] <;> omega))) | (show some (Value.bool _) = some (Value.bool _); simp_all)) (kt (ks := [6, 7]) rfl), rfl⟩
 refine sx 7 ?_
 refine spl 23 rfl (fun g4 => ?_) fun g4 => ?_
 refine sx 5 ?_
 exact RunL.nil ⟨.cons (by first | rfl | (show some (Value.bool _) = some (Value.bool _); exact congrArg some (congrArg Value.bool (by rw [Bool.eq_iff_iff]; simp [mneg] <;> omega))) | (show some (Value.bool _) = some (Value.bool _); simp_all)) (kt (ks := [6, 7]) rfl), rfl⟩
 refine sx 5 ?_
 exact RunL.nil ⟨.cons (by first | rfl | (show some (Value.bool _) = some (Value.bool _); exact congrArg some (congrArg Value.bool (by rw [Bool.eq_iff_iff]; simp [mneg] <;> omega))) | (show some (Value.bool _) = some (Value.bool _); simp_all)) (kt (ks := [6, 7]) rfl), rfl⟩
 refine rg 1 [6, 7, 8, 9] ?_
 refine Run.seq ?_
 refine rg 1 [6, 7, 8, 9, 28] ?_
 refine cnd rfl (fun h5 => ?_) fun h5 => ?_
 refine Run.region ?_
 refine sx 1 ?_
 refine kq [6, 7, 8, 9] ?_
 refine Run.seq ?_
 refine sr ?_
 refine sx 3 ?_
 refine spl 31 rfl (fun g6 => ?_) fun g6 => ?_
 refine sx 3 ?_
 refine RunL.yes rfl rfl rfl rfl (OpJ.quoU rfl rfl (by omega) (by omega) ?_)
 refine sx 2 ?_
 refine kq [6, 7, 8, 37] ?_
 refine cnd rfl (fun h7 => ?_) fun h7 => ?_
 refine rg 2 [4, 5] ?_
 exact .ret (ret_one (.tmp rfl (.tmp rfl .nil)) (by first | exact rmul_no (m := 9223372036854775808) (by omega) (by omega) (by rw [if_pos (by omega)]) | exact rmul_no (m := 9223372036854775807) (by omega) (by omega) (by rw [if_neg (by omega)]) | exact rmul_neg (rmul_range (m := 9223372036854775808) (by omega) (by omega) (by rw [if_pos (by omega)])) (by omega) | exact rmul_pos (rmul_range (m := 9223372036854775807) (by omega) (by omega) (by rw [if_neg (by omega)])) (by omega)) .nil)
 refine Run.skip ?_
 refine Run.seq ?_
 refine rg 1 [6, 7, 38] ?_
 refine cnd rfl (fun h8 => ?_) fun h8 => ?_
 refine rg 7 [4, 5] ?_
 exact .ret (ret_one (.tmp rfl (.tmp rfl .nil)) (by first | exact rmul_no (m := 9223372036854775808) (by omega) (by omega) (by rw [if_pos (by omega)]) | exact rmul_no (m := 9223372036854775807) (by omega) (by omega) (by rw [if_neg (by omega)]) | exact rmul_neg (rmul_range (m := 9223372036854775808) (by omega) (by omega) (by rw [if_pos (by omega)])) (by omega) | exact rmul_pos (rmul_range (m := 9223372036854775807) (by omega) (by omega) (by rw [if_neg (by omega)])) (by omega)) .nil)
 refine Run.skip ?_
 refine rg 6 [4, 5] ?_
 exact .ret (ret_one (.tmp rfl (.tmp rfl .nil)) (by first | exact rmul_no (m := 9223372036854775808) (by omega) (by omega) (by rw [if_pos (by omega)]) | exact rmul_no (m := 9223372036854775807) (by omega) (by omega) (by rw [if_neg (by omega)]) | exact rmul_neg (rmul_range (m := 9223372036854775808) (by omega) (by omega) (by rw [if_pos (by omega)])) (by omega) | exact rmul_pos (rmul_range (m := 9223372036854775807) (by omega) (by omega) (by rw [if_neg (by omega)])) (by omega)) .nil)
 refine sx 6 ?_
 refine kq [6, 7, 8, 37] ?_
 refine Run.false rfl ?_
 refine Run.skip ?_
 refine Run.seq ?_
 refine rg 1 [6, 7, 38] ?_
 refine cnd rfl (fun h9 => ?_) fun h9 => ?_
 refine rg 7 [4, 5] ?_
 exact .ret (ret_one (.tmp rfl (.tmp rfl .nil)) (by first | exact rmul_no (m := 9223372036854775808) (by omega) (by omega) (by rw [if_pos (by omega)]) | exact rmul_no (m := 9223372036854775807) (by omega) (by omega) (by rw [if_neg (by omega)]) | exact rmul_neg (rmul_range (m := 9223372036854775808) (by omega) (by omega) (by rw [if_pos (by omega)])) (by omega) | exact rmul_pos (rmul_range (m := 9223372036854775807) (by omega) (by omega) (by rw [if_neg (by omega)])) (by omega)) .nil)
 refine Run.skip ?_
 refine rg 6 [4, 5] ?_
 exact .ret (ret_one (.tmp rfl (.tmp rfl .nil)) (by first | exact rmul_no (m := 9223372036854775808) (by omega) (by omega) (by rw [if_pos (by omega)]) | exact rmul_no (m := 9223372036854775807) (by omega) (by omega) (by rw [if_neg (by omega)]) | exact rmul_neg (rmul_range (m := 9223372036854775808) (by omega) (by omega) (by rw [if_pos (by omega)])) (by omega) | exact rmul_pos (rmul_range (m := 9223372036854775807) (by omega) (by omega) (by rw [if_neg (by omega)])) (by omega)) .nil)
 refine Run.skip ?_
 refine Run.seq ?_
 refine sr ?_
 refine sx 3 ?_
 refine spl 31 rfl (fun g10 => ?_) fun g10 => ?_
 refine sx 3 ?_
 refine RunL.yes rfl rfl rfl rfl (OpJ.quoU rfl rfl (by omega) (by omega) ?_)
 refine sx 2 ?_
 refine kq [6, 7, 8, 37] ?_
 refine cnd rfl (fun h11 => ?_) fun h11 => ?_
 refine rg 2 [4, 5] ?_
 exact .ret (ret_one (.tmp rfl (.tmp rfl .nil)) (by first | exact rmul_no (m := 9223372036854775808) (by omega) (by omega) (by rw [if_pos (by omega)]) | exact rmul_no (m := 9223372036854775807) (by omega) (by omega) (by rw [if_neg (by omega)]) | exact rmul_neg (rmul_range (m := 9223372036854775808) (by omega) (by omega) (by rw [if_pos (by omega)])) (by omega) | exact rmul_pos (rmul_range (m := 9223372036854775807) (by omega) (by omega) (by rw [if_neg (by omega)])) (by omega)) .nil)
 refine Run.skip ?_
 refine Run.seq ?_
 refine rg 1 [6, 7, 38] ?_
 refine cnd rfl (fun h12 => ?_) fun h12 => ?_
 refine rg 7 [4, 5] ?_
 exact .ret (ret_one (.tmp rfl (.tmp rfl .nil)) (by first | exact rmul_no (m := 9223372036854775808) (by omega) (by omega) (by rw [if_pos (by omega)]) | exact rmul_no (m := 9223372036854775807) (by omega) (by omega) (by rw [if_neg (by omega)]) | exact rmul_neg (rmul_range (m := 9223372036854775808) (by omega) (by omega) (by rw [if_pos (by omega)])) (by omega) | exact rmul_pos (rmul_range (m := 9223372036854775807) (by omega) (by omega) (by rw [if_neg (by omega)])) (by omega)) .nil)
 refine Run.skip ?_
 refine rg 6 [4, 5] ?_
 exact .ret (ret_one (.tmp rfl (.tmp rfl .nil)) (by first | exact rmul_no (m := 9223372036854775808) (by omega) (by omega) (by rw [if_pos (by omega)]) | exact rmul_no (m := 9223372036854775807) (by omega) (by omega) (by rw [if_neg (by omega)]) | exact rmul_neg (rmul_range (m := 9223372036854775808) (by omega) (by omega) (by rw [if_pos (by omega)])) (by omega) | exact rmul_pos (rmul_range (m := 9223372036854775807) (by omega) (by omega) (by rw [if_neg (by omega)])) (by omega)) .nil)
 refine sx 6 ?_
 refine kq [6, 7, 8, 37] ?_
 refine Run.false rfl ?_
 refine Run.skip ?_
 refine Run.seq ?_
 refine rg 1 [6, 7, 38] ?_
 refine cnd rfl (fun h13 => ?_) fun h13 => ?_
 refine rg 7 [4, 5] ?_
 exact .ret (ret_one (.tmp rfl (.tmp rfl .nil)) (by first | exact rmul_no (m := 9223372036854775808) (by omega) (by omega) (by rw [if_pos (by omega)]) | exact rmul_no (m := 9223372036854775807) (by omega) (by omega) (by rw [if_neg (by omega)]) | exact rmul_neg (rmul_range (m := 9223372036854775808) (by omega) (by omega) (by rw [if_pos (by omega)])) (by omega) | exact rmul_pos (rmul_range (m := 9223372036854775807) (by omega) (by omega) (by rw [if_neg (by omega)])) (by omega)) .nil)
 refine Run.skip ?_
 refine rg 6 [4, 5] ?_
 exact .ret (ret_one (.tmp rfl (.tmp rfl .nil)) (by first | exact rmul_no (m := 9223372036854775808) (by omega) (by omega) (by rw [if_pos (by omega)]) | exact rmul_no (m := 9223372036854775807) (by omega) (by omega) (by rw [if_neg (by omega)]) | exact rmul_neg (rmul_range (m := 9223372036854775808) (by omega) (by omega) (by rw [if_pos (by omega)])) (by omega) | exact rmul_pos (rmul_range (m := 9223372036854775807) (by omega) (by omega) (by rw [if_neg (by omega)])) (by omega)) .nil)
theorem ac141 (a b c mode : Int) (ha : i64 a) (hb : i64 b) (hc : i64 c) : AC Tryz.prog 185 ⟨[I a, I b, I c, I mode]⟩ (stars []) (Ret (.tuple ⟨[I (mdN a b c mode), I (mdE a b c mode)]⟩) []) := by
 have ua := mag_u64 ha; have ub := mag_u64 hb; have uc := mag_u64 hc; have pl := prod_le ha hb
 refine eo Tryz.func185 fun β => ?_
 refine rg 2 [0, 1, 2, 3] ?_
 refine Run.seq ?_
 refine sr ?_
 refine sx 3 ?_
 refine spl 18 rfl (fun g1 => ?_) fun g1 => ?_
 refine sx 3 ?_
 refine kq [0, 1, 2, 3, 21] ?_
 refine Run.true rfl ?_
 refine rg 2 [8, 9] ?_
 refine Run.ret ?_
 exact ret_one (.tmp rfl (.tmp rfl .nil)) (by first | exact md_kind (by omega) | exact md_zero (by omega) (by omega) | exact md_big (by omega) (by omega) (s := mag a * mag b / mag c) (by omega) md_size_ge | exact md_big (by omega) (by omega) (s := mdSize a b c mode) (by omega) (Int.le_refl _) | exact md_top (by omega) (by omega) (s := mdSize a b c mode) (by omega) rfl (by simp_all) | exact md_bot (by omega) (by omega) (s := mdSize a b c mode) (by omega) rfl (by simp_all) | exact md_neg (by omega) (by omega) (by omega) (by omega) (by omega) (by simp_all) | exact md_pos (by omega) (by omega) (by omega) (by omega) (by omega) (by simp_all) | (exfalso; omega)) .nil
 refine sx 3 ?_
 refine kq [0, 1, 2, 3, 21] ?_
 refine cnd rfl (fun h2 => ?_) fun h2 => ?_
 refine rg 2 [8, 9] ?_
 refine Run.ret ?_
 exact ret_one (.tmp rfl (.tmp rfl .nil)) (by first | exact md_kind (by omega) | exact md_zero (by omega) (by omega) | exact md_big (by omega) (by omega) (s := mag a * mag b / mag c) (by omega) md_size_ge | exact md_big (by omega) (by omega) (s := mdSize a b c mode) (by omega) (Int.le_refl _) | exact md_top (by omega) (by omega) (s := mdSize a b c mode) (by omega) rfl (by simp_all) | exact md_bot (by omega) (by omega) (s := mdSize a b c mode) (by omega) rfl (by simp_all) | exact md_neg (by omega) (by omega) (by omega) (by omega) (by omega) (by simp_all) | exact md_pos (by omega) (by omega) (by omega) (by omega) (by omega) (by simp_all) | (exfalso; omega)) .nil
 refine Run.skip ?_
 refine Run.seq ?_
 refine rg 2 [0, 1, 2, 3, 23] ?_
 refine cnd rfl (fun h3 => ?_) fun h3 => ?_
 refine rg 2 [8, 9] ?_
 refine Run.ret ?_
 exact ret_one (.tmp rfl (.tmp rfl .nil)) (by first | exact md_kind (by omega) | exact md_zero (by omega) (by omega) | exact md_big (by omega) (by omega) (s := mag a * mag b / mag c) (by omega) md_size_ge | exact md_big (by omega) (by omega) (s := mdSize a b c mode) (by omega) (Int.le_refl _) | exact md_top (by omega) (by omega) (s := mdSize a b c mode) (by omega) rfl (by simp_all) | exact md_bot (by omega) (by omega) (s := mdSize a b c mode) (by omega) rfl (by simp_all) | exact md_neg (by omega) (by omega) (by omega) (by omega) (by omega) (by simp_all) | exact md_pos (by omega) (by omega) (by omega) (by omega) (by omega) (by simp_all) | (exfalso; omega)) .nil
 refine Run.skip ?_
 refine sr ?_
 have cpos := mag_pos (show c ≠ 0 by omega); have q0 := quo_le pl.1 cpos; have r0 := rem_lt (m := mag a * mag b) cpos
 refine sx 1 ?_
 refine RunL.call C168 rfl rfl rfl (ac168 _ (by omega)) .nil ?_
 refine sx 1 ?_
 refine RunL.call C168 rfl rfl rfl (ac168 _ (by omega)) .nil ?_
 refine RunL.call C167 rfl rfl rfl (ac167 _ _ (by omega) (by omega)) .nil ?_
 refine sx 5 ?_
 refine kq [0, 1, 2, 3, 10, 11] ?_
 refine sr ?_
 refine sx 3 ?_
 refine RunL.call C168 rfl rfl rfl (ac168 _ (by omega)) .nil ?_
 refine RunL.call C169 rfl rfl rfl (ac169m _ _ (by omega) (by omega) (by omega) (by omega)) .nil ?_
 refine sx 7 ?_
 refine kq [0, 1, 2, 3, 12, 13, 14] ?_
 refine sr ?_
 refine sx 8 ?_
 refine RunL.set (congrArg Bo (show _ = nbB a b c by unfold nbB; rfl)) ?_
 refine sx 1 ?_
 refine kq [2, 3, 12, 13, 14, 15] ?_
 refine Run.seq ?_
 refine sr ?_
 refine sx 3 ?_
 refine spl 51 rfl (fun g4 => ?_) fun g4 => ?_
 refine sx 3 ?_
 refine kq [2, 3, 13, 14, 15, 54] ?_
 refine Run.true rfl ?_
 refine rg 2 [8, 9] ?_
 refine Run.ret ?_
 exact ret_one (.tmp rfl (.tmp rfl .nil)) (by first | exact md_kind (by omega) | exact md_zero (by omega) (by omega) | exact md_big (by omega) (by omega) (s := mag a * mag b / mag c) (by omega) md_size_ge | exact md_big (by omega) (by omega) (s := mdSize a b c mode) (by omega) (Int.le_refl _) | exact md_top (by omega) (by omega) (s := mdSize a b c mode) (by omega) rfl (by simp_all) | exact md_bot (by omega) (by omega) (s := mdSize a b c mode) (by omega) rfl (by simp_all) | exact md_neg (by omega) (by omega) (by omega) (by omega) (by omega) (by simp_all) | exact md_pos (by omega) (by omega) (by omega) (by omega) (by omega) (by simp_all) | (exfalso; omega)) .nil
 refine sx 3 ?_
 refine kq [2, 3, 13, 14, 15, 54] ?_
 refine cnd rfl (fun h5 => ?_) fun h5 => ?_
 refine rg 2 [8, 9] ?_
 refine Run.ret ?_
 exact ret_one (.tmp rfl (.tmp rfl .nil)) (by first | exact md_kind (by omega) | exact md_zero (by omega) (by omega) | exact md_big (by omega) (by omega) (s := mag a * mag b / mag c) (by omega) md_size_ge | exact md_big (by omega) (by omega) (s := mdSize a b c mode) (by omega) (Int.le_refl _) | exact md_top (by omega) (by omega) (s := mdSize a b c mode) (by omega) rfl (by simp_all) | exact md_bot (by omega) (by omega) (s := mdSize a b c mode) (by omega) rfl (by simp_all) | exact md_neg (by omega) (by omega) (by omega) (by omega) (by omega) (by simp_all) | exact md_pos (by omega) (by omega) (by omega) (by omega) (by omega) (by simp_all) | (exfalso; omega)) .nil
 refine Run.skip ?_
 refine Run.seq ?_
 refine sr ?_
 refine sx 3 ?_
 refine RunL.op rfl rfl (OpJ.remU rfl rfl (by omega) (by omega) ?_)
 refine RunL.set (congrArg U (show _ = mag a * mag b / mag c % 2 by omega)) ?_
 refine sx 3 ?_
 refine RunL.call C168 rfl rfl rfl (ac168 _ (by omega)) .nil ?_
 refine RunL.call C170 rfl rfl rfl (ac170 _ _ _ _ _ (by omega) (by omega) (by omega)) .nil ?_
 refine RunL.set (congrArg Bo (away_nb a b c mode _)) ?_
 refine kq [13, 15, 63] ?_
 refine cnd rfl (fun h6 => ?_) fun h6 => ?_
 refine Run.region ?_
 have hz : mdSize a b c mode = mag a * mag b / mag c + 1 := by unfold mdSize; rw [if_pos (by assumption)]
 refine sx 1 ?_
 refine RunL.op rfl rfl (OpJ.addU rfl rfl (by omega) ?_)
 refine sx 1 ?_
 refine kq [13, 15] ?_
 refine Run.seq ?_
 refine sr ?_
 first | have hz1 := hz | have hz : mdSize a b c mode = mag a * mag b / mag c := (by unfold mdSize; rw [if_neg (by simp_all)]; omega)
 refine sx 3 ?_
 refine spl 68 rfl (fun g7 => ?_) fun g7 => ?_
 refine sx 7 ?_
 refine kq [13, 15, 75] ?_
 refine Run.true rfl ?_
 refine rg 2 [8, 9] ?_
 refine Run.ret ?_
 exact ret_one (.tmp rfl (.tmp rfl .nil)) (by first | exact md_kind (by omega) | exact md_zero (by omega) (by omega) | exact md_big (by omega) (by omega) (s := mag a * mag b / mag c) (by omega) md_size_ge | exact md_big (by omega) (by omega) (s := mdSize a b c mode) (by omega) (Int.le_refl _) | exact md_top (by omega) (by omega) (s := mdSize a b c mode) (by omega) rfl (by simp_all) | exact md_bot (by omega) (by omega) (s := mdSize a b c mode) (by omega) rfl (by simp_all) | exact md_neg (by omega) (by omega) (by omega) (by omega) (by omega) (by simp_all) | exact md_pos (by omega) (by omega) (by omega) (by omega) (by omega) (by simp_all) | (exfalso; omega)) .nil
 refine sx 3 ?_
 refine spl 71 rfl (fun g8 => ?_) fun g8 => ?_
 refine sx 4 ?_
 refine kq [13, 15, 75] ?_
 refine cnd rfl (fun h9 => ?_) fun h9 => ?_
 refine rg 2 [8, 9] ?_
 refine Run.ret ?_
 exact ret_one (.tmp rfl (.tmp rfl .nil)) (by first | exact md_kind (by omega) | exact md_zero (by omega) (by omega) | exact md_big (by omega) (by omega) (s := mag a * mag b / mag c) (by omega) md_size_ge | exact md_big (by omega) (by omega) (s := mdSize a b c mode) (by omega) (Int.le_refl _) | exact md_top (by omega) (by omega) (s := mdSize a b c mode) (by omega) rfl (by simp_all) | exact md_bot (by omega) (by omega) (s := mdSize a b c mode) (by omega) rfl (by simp_all) | exact md_neg (by omega) (by omega) (by omega) (by omega) (by omega) (by simp_all) | exact md_pos (by omega) (by omega) (by omega) (by omega) (by omega) (by simp_all) | (exfalso; omega)) .nil
 refine Run.skip ?_
 refine Run.seq ?_
 refine rg 2 [13, 15, 77] ?_
 refine cnd rfl (fun h10 => ?_) fun h10 => ?_
 refine rg 2 [8, 9] ?_
 refine Run.ret ?_
 exact ret_one (.tmp rfl (.tmp rfl .nil)) (by first | exact md_kind (by omega) | exact md_zero (by omega) (by omega) | exact md_big (by omega) (by omega) (s := mag a * mag b / mag c) (by omega) md_size_ge | exact md_big (by omega) (by omega) (s := mdSize a b c mode) (by omega) (Int.le_refl _) | exact md_top (by omega) (by omega) (s := mdSize a b c mode) (by omega) rfl (by simp_all) | exact md_bot (by omega) (by omega) (s := mdSize a b c mode) (by omega) rfl (by simp_all) | exact md_neg (by omega) (by omega) (by omega) (by omega) (by omega) (by simp_all) | exact md_pos (by omega) (by omega) (by omega) (by omega) (by omega) (by simp_all) | (exfalso; omega)) .nil
 refine Run.skip ?_
 refine Run.seq ?_
 refine rg 1 [13, 78] ?_
 refine cnd rfl (fun h11 => ?_) fun h11 => ?_
 refine rg 5 [8, 9] ?_
 refine Run.ret ?_
 exact ret_one (.tmp rfl (.tmp rfl .nil)) (by first | exact md_kind (by omega) | exact md_zero (by omega) (by omega) | exact md_big (by omega) (by omega) (s := mag a * mag b / mag c) (by omega) md_size_ge | exact md_big (by omega) (by omega) (s := mdSize a b c mode) (by omega) (Int.le_refl _) | exact md_top (by omega) (by omega) (s := mdSize a b c mode) (by omega) rfl (by simp_all) | exact md_bot (by omega) (by omega) (s := mdSize a b c mode) (by omega) rfl (by simp_all) | exact md_neg (by omega) (by omega) (by omega) (by omega) (by omega) (by simp_all) | exact md_pos (by omega) (by omega) (by omega) (by omega) (by omega) (by simp_all) | (exfalso; omega)) .nil
 refine Run.skip ?_
 refine rg 4 [8, 9] ?_
 refine Run.ret ?_
 exact ret_one (.tmp rfl (.tmp rfl .nil)) (by first | exact md_kind (by omega) | exact md_zero (by omega) (by omega) | exact md_big (by omega) (by omega) (s := mag a * mag b / mag c) (by omega) md_size_ge | exact md_big (by omega) (by omega) (s := mdSize a b c mode) (by omega) (Int.le_refl _) | exact md_top (by omega) (by omega) (s := mdSize a b c mode) (by omega) rfl (by simp_all) | exact md_bot (by omega) (by omega) (s := mdSize a b c mode) (by omega) rfl (by simp_all) | exact md_neg (by omega) (by omega) (by omega) (by omega) (by omega) (by simp_all) | exact md_pos (by omega) (by omega) (by omega) (by omega) (by omega) (by simp_all) | (exfalso; omega)) .nil
 refine sx 4 ?_
 refine kq [13, 15, 75] ?_
 refine Run.false rfl ?_
 refine Run.skip ?_
 refine Run.seq ?_
 refine rg 2 [13, 15, 77] ?_
 refine cnd rfl (fun h12 => ?_) fun h12 => ?_
 refine rg 2 [8, 9] ?_
 refine Run.ret ?_
 exact ret_one (.tmp rfl (.tmp rfl .nil)) (by first | exact md_kind (by omega) | exact md_zero (by omega) (by omega) | exact md_big (by omega) (by omega) (s := mag a * mag b / mag c) (by omega) md_size_ge | exact md_big (by omega) (by omega) (s := mdSize a b c mode) (by omega) (Int.le_refl _) | exact md_top (by omega) (by omega) (s := mdSize a b c mode) (by omega) rfl (by simp_all) | exact md_bot (by omega) (by omega) (s := mdSize a b c mode) (by omega) rfl (by simp_all) | exact md_neg (by omega) (by omega) (by omega) (by omega) (by omega) (by simp_all) | exact md_pos (by omega) (by omega) (by omega) (by omega) (by omega) (by simp_all) | (exfalso; omega)) .nil
 refine Run.skip ?_
 refine Run.seq ?_
 refine rg 1 [13, 78] ?_
 refine cnd rfl (fun h13 => ?_) fun h13 => ?_
 refine rg 5 [8, 9] ?_
 refine Run.ret ?_
 exact ret_one (.tmp rfl (.tmp rfl .nil)) (by first | exact md_kind (by omega) | exact md_zero (by omega) (by omega) | exact md_big (by omega) (by omega) (s := mag a * mag b / mag c) (by omega) md_size_ge | exact md_big (by omega) (by omega) (s := mdSize a b c mode) (by omega) (Int.le_refl _) | exact md_top (by omega) (by omega) (s := mdSize a b c mode) (by omega) rfl (by simp_all) | exact md_bot (by omega) (by omega) (s := mdSize a b c mode) (by omega) rfl (by simp_all) | exact md_neg (by omega) (by omega) (by omega) (by omega) (by omega) (by simp_all) | exact md_pos (by omega) (by omega) (by omega) (by omega) (by omega) (by simp_all) | (exfalso; omega)) .nil
 refine Run.skip ?_
 refine rg 4 [8, 9] ?_
 refine Run.ret ?_
 exact ret_one (.tmp rfl (.tmp rfl .nil)) (by first | exact md_kind (by omega) | exact md_zero (by omega) (by omega) | exact md_big (by omega) (by omega) (s := mag a * mag b / mag c) (by omega) md_size_ge | exact md_big (by omega) (by omega) (s := mdSize a b c mode) (by omega) (Int.le_refl _) | exact md_top (by omega) (by omega) (s := mdSize a b c mode) (by omega) rfl (by simp_all) | exact md_bot (by omega) (by omega) (s := mdSize a b c mode) (by omega) rfl (by simp_all) | exact md_neg (by omega) (by omega) (by omega) (by omega) (by omega) (by simp_all) | exact md_pos (by omega) (by omega) (by omega) (by omega) (by omega) (by simp_all) | (exfalso; omega)) .nil
 refine Run.skip ?_
 refine Run.seq ?_
 refine sr ?_
 first | have hz1 := hz | have hz : mdSize a b c mode = mag a * mag b / mag c := (by unfold mdSize; rw [if_neg (by simp_all)]; omega)
 refine sx 3 ?_
 refine spl 68 rfl (fun g14 => ?_) fun g14 => ?_
 refine sx 7 ?_
 refine kq [13, 15, 75] ?_
 refine Run.true rfl ?_
 refine rg 2 [8, 9] ?_
 refine Run.ret ?_
 exact ret_one (.tmp rfl (.tmp rfl .nil)) (by first | exact md_kind (by omega) | exact md_zero (by omega) (by omega) | exact md_big (by omega) (by omega) (s := mag a * mag b / mag c) (by omega) md_size_ge | exact md_big (by omega) (by omega) (s := mdSize a b c mode) (by omega) (Int.le_refl _) | exact md_top (by omega) (by omega) (s := mdSize a b c mode) (by omega) rfl (by simp_all) | exact md_bot (by omega) (by omega) (s := mdSize a b c mode) (by omega) rfl (by simp_all) | exact md_neg (by omega) (by omega) (by omega) (by omega) (by omega) (by simp_all) | exact md_pos (by omega) (by omega) (by omega) (by omega) (by omega) (by simp_all) | (exfalso; omega)) .nil
 refine sx 3 ?_
 refine spl 71 rfl (fun g15 => ?_) fun g15 => ?_
 refine sx 4 ?_
 refine kq [13, 15, 75] ?_
 refine cnd rfl (fun h16 => ?_) fun h16 => ?_
 refine rg 2 [8, 9] ?_
 refine Run.ret ?_
 exact ret_one (.tmp rfl (.tmp rfl .nil)) (by first | exact md_kind (by omega) | exact md_zero (by omega) (by omega) | exact md_big (by omega) (by omega) (s := mag a * mag b / mag c) (by omega) md_size_ge | exact md_big (by omega) (by omega) (s := mdSize a b c mode) (by omega) (Int.le_refl _) | exact md_top (by omega) (by omega) (s := mdSize a b c mode) (by omega) rfl (by simp_all) | exact md_bot (by omega) (by omega) (s := mdSize a b c mode) (by omega) rfl (by simp_all) | exact md_neg (by omega) (by omega) (by omega) (by omega) (by omega) (by simp_all) | exact md_pos (by omega) (by omega) (by omega) (by omega) (by omega) (by simp_all) | (exfalso; omega)) .nil
 refine Run.skip ?_
 refine Run.seq ?_
 refine rg 2 [13, 15, 77] ?_
 refine cnd rfl (fun h17 => ?_) fun h17 => ?_
 refine rg 2 [8, 9] ?_
 refine Run.ret ?_
 exact ret_one (.tmp rfl (.tmp rfl .nil)) (by first | exact md_kind (by omega) | exact md_zero (by omega) (by omega) | exact md_big (by omega) (by omega) (s := mag a * mag b / mag c) (by omega) md_size_ge | exact md_big (by omega) (by omega) (s := mdSize a b c mode) (by omega) (Int.le_refl _) | exact md_top (by omega) (by omega) (s := mdSize a b c mode) (by omega) rfl (by simp_all) | exact md_bot (by omega) (by omega) (s := mdSize a b c mode) (by omega) rfl (by simp_all) | exact md_neg (by omega) (by omega) (by omega) (by omega) (by omega) (by simp_all) | exact md_pos (by omega) (by omega) (by omega) (by omega) (by omega) (by simp_all) | (exfalso; omega)) .nil
 refine Run.skip ?_
 refine Run.seq ?_
 refine rg 1 [13, 78] ?_
 refine cnd rfl (fun h18 => ?_) fun h18 => ?_
 refine rg 5 [8, 9] ?_
 refine Run.ret ?_
 exact ret_one (.tmp rfl (.tmp rfl .nil)) (by first | exact md_kind (by omega) | exact md_zero (by omega) (by omega) | exact md_big (by omega) (by omega) (s := mag a * mag b / mag c) (by omega) md_size_ge | exact md_big (by omega) (by omega) (s := mdSize a b c mode) (by omega) (Int.le_refl _) | exact md_top (by omega) (by omega) (s := mdSize a b c mode) (by omega) rfl (by simp_all) | exact md_bot (by omega) (by omega) (s := mdSize a b c mode) (by omega) rfl (by simp_all) | exact md_neg (by omega) (by omega) (by omega) (by omega) (by omega) (by simp_all) | exact md_pos (by omega) (by omega) (by omega) (by omega) (by omega) (by simp_all) | (exfalso; omega)) .nil
 refine Run.skip ?_
 refine rg 4 [8, 9] ?_
 refine Run.ret ?_
 exact ret_one (.tmp rfl (.tmp rfl .nil)) (by first | exact md_kind (by omega) | exact md_zero (by omega) (by omega) | exact md_big (by omega) (by omega) (s := mag a * mag b / mag c) (by omega) md_size_ge | exact md_big (by omega) (by omega) (s := mdSize a b c mode) (by omega) (Int.le_refl _) | exact md_top (by omega) (by omega) (s := mdSize a b c mode) (by omega) rfl (by simp_all) | exact md_bot (by omega) (by omega) (s := mdSize a b c mode) (by omega) rfl (by simp_all) | exact md_neg (by omega) (by omega) (by omega) (by omega) (by omega) (by simp_all) | exact md_pos (by omega) (by omega) (by omega) (by omega) (by omega) (by simp_all) | (exfalso; omega)) .nil
 refine sx 4 ?_
 refine kq [13, 15, 75] ?_
 refine Run.false rfl ?_
 refine Run.skip ?_
 refine Run.seq ?_
 refine rg 2 [13, 15, 77] ?_
 refine cnd rfl (fun h19 => ?_) fun h19 => ?_
 refine rg 2 [8, 9] ?_
 refine Run.ret ?_
 exact ret_one (.tmp rfl (.tmp rfl .nil)) (by first | exact md_kind (by omega) | exact md_zero (by omega) (by omega) | exact md_big (by omega) (by omega) (s := mag a * mag b / mag c) (by omega) md_size_ge | exact md_big (by omega) (by omega) (s := mdSize a b c mode) (by omega) (Int.le_refl _) | exact md_top (by omega) (by omega) (s := mdSize a b c mode) (by omega) rfl (by simp_all) | exact md_bot (by omega) (by omega) (s := mdSize a b c mode) (by omega) rfl (by simp_all) | exact md_neg (by omega) (by omega) (by omega) (by omega) (by omega) (by simp_all) | exact md_pos (by omega) (by omega) (by omega) (by omega) (by omega) (by simp_all) | (exfalso; omega)) .nil
 refine Run.skip ?_
 refine Run.seq ?_
 refine rg 1 [13, 78] ?_
 refine cnd rfl (fun h20 => ?_) fun h20 => ?_
 refine rg 5 [8, 9] ?_
 refine Run.ret ?_
 exact ret_one (.tmp rfl (.tmp rfl .nil)) (by first | exact md_kind (by omega) | exact md_zero (by omega) (by omega) | exact md_big (by omega) (by omega) (s := mag a * mag b / mag c) (by omega) md_size_ge | exact md_big (by omega) (by omega) (s := mdSize a b c mode) (by omega) (Int.le_refl _) | exact md_top (by omega) (by omega) (s := mdSize a b c mode) (by omega) rfl (by simp_all) | exact md_bot (by omega) (by omega) (s := mdSize a b c mode) (by omega) rfl (by simp_all) | exact md_neg (by omega) (by omega) (by omega) (by omega) (by omega) (by simp_all) | exact md_pos (by omega) (by omega) (by omega) (by omega) (by omega) (by simp_all) | (exfalso; omega)) .nil
 refine Run.skip ?_
 refine rg 4 [8, 9] ?_
 refine Run.ret ?_
 exact ret_one (.tmp rfl (.tmp rfl .nil)) (by first | exact md_kind (by omega) | exact md_zero (by omega) (by omega) | exact md_big (by omega) (by omega) (s := mag a * mag b / mag c) (by omega) md_size_ge | exact md_big (by omega) (by omega) (s := mdSize a b c mode) (by omega) (Int.le_refl _) | exact md_top (by omega) (by omega) (s := mdSize a b c mode) (by omega) rfl (by simp_all) | exact md_bot (by omega) (by omega) (s := mdSize a b c mode) (by omega) rfl (by simp_all) | exact md_neg (by omega) (by omega) (by omega) (by omega) (by omega) (by simp_all) | exact md_pos (by omega) (by omega) (by omega) (by omega) (by omega) (by simp_all) | (exfalso; omega)) .nil
theorem ac165 (v q n : Int) (hv : i64 v) (hq : i64 q) (hn : i64 n) : AC Tryz.prog 203 ⟨[I v, I q, I n]⟩ (stars []) (Ret (I (partN v q n)) []) := by
 refine eo Tryz.func203 fun β => ?_
 refine rg 1 [0, 1, 2] ?_
 refine Run.seq ?_
 refine rg 3 [0, 1, 2, 11] ?_
 refine cnd rfl (fun h1 => ?_) fun h1 => ?_
 refine rg 2 [6] ?_
 exact .ret (ret_one (.tmp rfl .nil) t0 .nil)
 refine Run.skip ?_
 refine sr ?_
 refine sx 3 ?_
 refine RunL.call C141 rfl rfl rfl (ac141 _ _ _ _ (by omega) (by omega) (by omega)) .nil ?_
 refine sx 5 ?_
 refine kq [7] ?_
 refine rg 2 [6] ?_
 exact .ret (ret_one (.tmp rfl .nil) t0 .nil)
theorem ac139 (v q n : Int) (hv : i64 v) (hq : i64 q) (hn : i64 n) : AC Tryz.prog 183 ⟨[I v, I q, I n]⟩ (stars []) (Ret (I (partN v q n)) []) := by
 refine eo Tryz.func183 fun β => ?_
 refine rg 1 [0, 1, 2] ?_
 refine Run.seq ?_
 refine rg 3 [0, 1, 2, 11] ?_
 refine cnd rfl (fun h1 => ?_) fun h1 => ?_
 refine rg 2 [6] ?_
 exact .ret (ret_one (.tmp rfl .nil) t0 .nil)
 refine Run.skip ?_
 refine sr ?_
 refine sx 3 ?_
 refine RunL.call C141 rfl rfl rfl (ac141 _ _ _ _ (by omega) (by omega) (by omega)) .nil ?_
 refine sx 5 ?_
 refine kq [7] ?_
 refine rg 2 [6] ?_
 exact .ret (ret_one (.tmp rfl .nil) t0 .nil)
theorem ac163 (p : Pa) (m : Mv) (hm : i64 m.qty) : AC Tryz.prog 201 ⟨[.agg ⟨p.c⟩, I m.qty]⟩ (stars []) (Ret (I (backV p m)) []) := by
 refine eo Tryz.func201 fun β => ?_
 refine sr ?_
 refine obx rfl fun b2 => ?_
 refine sx 1 ?_
 refine kq [1, 2] ?_
 refine sr ?_
 refine sx 4 ?_
 refine RunL.op rfl rfl (OpJ.sub rfl rfl ?_)
 refine sx 5 ?_
 refine RunL.op rfl rfl (OpJ.sub rfl rfl ?_)
 refine RunL.call C165 rfl rfl rfl (ac165 _ _ _ (W_i64 _) hm (W_i64 _)) .nil ?_
 refine sx 1 ?_
 refine kq [4] ?_
 exact .ret (ret_one (.tmp rfl .nil) t0 .nil)
theorem ac103 (p : Pa) (m : Mv) (hm : i64 m.qty) : AC Tryz.prog 156 ⟨[.agg ⟨p.c⟩, I m.qty]⟩ (stars []) (Ret (I (backV p m)) []) := by
 refine eo Tryz.func156 fun β => ?_
 refine sr ?_
 refine obx rfl fun b2 => ?_
 refine sx 1 ?_
 refine kq [1, 2] ?_
 refine Run.seq ?_
 refine regionD HM ?_
 refine dx [0, 1, 2, 3] ?_
 refine tk 4 rfl rfl rfl (DetJ.sub rfl rfl) ?_
 refine dx [5, 6, 7, 8] ?_
 refine tk 9 rfl rfl rfl (DetJ.sub rfl rfl) ?_
 refine dx [10, 11] ?_
 refine kd [1, 5, 6] rfl ?_
 refine Run.seq ?_
 refine rg 3 [1, 5, 6, 21] ?_
 refine cnd rfl (fun h1 => ?_) fun h1 => ?_
 refine rg 2 [4] ?_
 exact .ret (ret_one (.tmp rfl .nil) t0 .nil)
 refine Run.skip ?_
 refine sr ?_
 refine sx 3 ?_
 refine RunL.call C141 rfl rfl rfl (ac141 _ _ _ _ (W_i64 _) hm (W_i64 _)) .nil ?_
 refine sx 5 ?_
 refine kq [7] ?_
 refine rg 2 [4] ?_
 exact .ret (ret_one (.tmp rfl .nil) t0 .nil)
theorem ac132 (s : Sk) (la : Option Addr) (lc : Nat) (pa : Option Addr) (pc : Nat) (RP : HP) (kind seq : Int) (hk : kind ≠ 0) (hRP : RdS RP pa (s.past.flatMap Pa.c)) (hnp : s.past.length ≤ 1000000) : AC Tryz.prog 176 ⟨[.agg ⟨s.c la lc pa pc⟩, I kind, I seq]⟩ (stars [RP]) (Ret (I (idxOf (findI (isPast kind seq) s.past))) [RP]) := by
 refine eo Tryz.func176 fun β => ?_
 refine sr ?_
 refine obx rfl fun b3 => ?_
 refine sx 1 ?_
 refine kq [1, 2, 3] ?_
 refine Run.seq ?_
 refine rg 1 [1, 2, 3, 7] ?_
 refine Run.block ?_
 refine Run.loop (fun mm E L => ∃ i : Nat, mm = s.past.length - i ∧ i ≤ s.past.length ∧ (∀ j y, j < i → s.past[j]? = some y → isPast kind seq y = false) ∧ E = [(1, I kind), (2, I seq), (3, .pointer (some ⟨b3, 0, none⟩)), (7, I i)] ∧ L = [pt b3 (blk (s.c la lc pa pc) 61), RP]) ⟨_, 0, rfl, Nat.zero_le _, fun _ _ h => by omega, rfl, rfl⟩ ?_
 rintro _ _ _ ⟨i, rfl, hi, hI0, rfl, rfl⟩
 refine Run.seq ?_
 refine rg 5 [1, 2, 3, 7, 12] ?_
 refine cnd rfl (fun h1 => ?_) fun h1 => ?_
 refine Run.skip ?_
 refine Run.seq ?_
 refine Run.block ?_
 refine sr ?_
 obtain ⟨x, hx⟩ := get_ex (xs := s.past) (by omega)
 refine RunL.rdOpen pk hRP (flat_ne (k := 7) (fun _ => rfl) (by decide) hx) fun b o e hrd => ?_
 subst e
 refine sx 5 ?_
 refine RunL.op rfl rfl (OpJ.load1 T3 rfl pk (hrd.pa hx 1 (I x.kind) rfl) ?_)
 refine sx 3 ?_
 refine spl 23 rfl (fun g2 => ?_) fun g2 => ?_
 refine sx 5 ?_
 refine RunL.yes rfl rfl rfl rfl (OpJ.load1 T3 rfl pk (hrd.pa hx 0 (I x.seq) rfl) ?_)
 refine sx 3 ?_
 refine kq [1, 2, 3, 7, 32] ?_
 refine cnd rfl (fun h3 => ?_) fun h3 => ?_
 refine rg 2 [6] ?_
 refine Run.ret ?_
 exact ret_one (.tmp rfl .nil) (congrArg I (by rw [findI_at hx (by unfold isPast; simp_all) hI0]; rfl)) gv
 refine Run.skip ?_
 refine Run.region ?_
 refine sx 3 ?_
 exact RunL.next (Keep.sub (kt (ks := [1, 2, 3, 7]) rfl)) _ ⟨_, by omega, i + 1, rfl, by omega, notYet hx (by unfold isPast; simp_all) hI0, rfl, rfl⟩ gv
 refine sx 9 ?_
 refine kq [1, 2, 3, 7, 32] ?_
 refine Run.false rfl ?_
 refine Run.skip ?_
 refine Run.region ?_
 refine sx 3 ?_
 exact RunL.next (Keep.sub (kt (ks := [1, 2, 3, 7]) rfl)) _ ⟨_, by omega, i + 1, rfl, by omega, notYet hx (by unfold isPast; simp_all) hI0, rfl, rfl⟩ gv
 refine Run.exit ?_
 refine rg 1 [6] ?_
 refine Run.ret ?_
 exact ret_one (.tmp rfl .nil) (congrArg I (by rw [findI_none (fun j y hj => hI0 j y (by omega))]; rfl)) gv
theorem ac164 (s : Sk) (la : Option Addr) (lc : Nat) (pa : Option Addr) (pc : Nat) (RL : HP) (seq : Int) (hRL : RdS RL la (s.layers.flatMap Ly.c)) (hnl : s.layers.length ≤ 1000000) : AC Tryz.prog 202 ⟨[.agg ⟨s.c la lc pa pc⟩, I seq]⟩ (stars [RL]) (Ret (I (idxOf (findI (isLy seq) s.layers))) [RL]) := by
 refine eo Tryz.func202 fun β => ?_
 refine sr ?_
 refine obx rfl fun b2 => ?_
 refine sx 1 ?_
 refine kq [1, 2] ?_
 refine Run.seq ?_
 refine rg 1 [1, 2, 5] ?_
 refine Run.block ?_
 refine Run.loop (fun mm E L => ∃ i : Nat, mm = s.layers.length - i ∧ i ≤ s.layers.length ∧ (∀ j y, j < i → s.layers[j]? = some y → isLy seq y = false) ∧ E = [(1, I seq), (2, .pointer (some ⟨b2, 0, none⟩)), (5, I i)] ∧ L = [pt b2 (blk (s.c la lc pa pc) 61), RL]) ⟨_, 0, rfl, Nat.zero_le _, fun _ _ h => by omega, rfl, rfl⟩ ?_
 rintro _ _ _ ⟨i, rfl, hi, hI0, rfl, rfl⟩
 refine Run.seq ?_
 refine rg 5 [1, 2, 5, 10] ?_
 refine cnd rfl (fun h1 => ?_) fun h1 => ?_
 refine Run.skip ?_
 refine Run.seq ?_
 refine Run.block ?_
 refine sr ?_
 obtain ⟨x, hx⟩ := get_ex (xs := s.layers) (by omega)
 refine RunL.rdOpen pk hRL (flat_ne (k := 4) (fun _ => rfl) (by decide) hx) fun b o e hrd => ?_
 subst e
 refine sx 5 ?_
 refine RunL.op rfl rfl (OpJ.load1 T3 rfl pk (hrd.ly hx 0 (I x.seq) rfl) ?_)
 refine sx 2 ?_
 refine kq [1, 2, 5, 20] ?_
 refine cnd rfl (fun h2 => ?_) fun h2 => ?_
 refine rg 2 [4] ?_
 refine Run.ret ?_
 exact ret_one (.tmp rfl .nil) (congrArg I (by rw [findI_at hx (by unfold isLy; simp_all) hI0]; rfl)) gv
 refine Run.skip ?_
 refine Run.region ?_
 refine sx 3 ?_
 exact RunL.next (Keep.sub (kt (ks := [1, 2, 5]) rfl)) _ ⟨_, by omega, i + 1, rfl, by omega, notYet hx (by unfold isLy; simp_all) hI0, rfl, rfl⟩ gv
 refine Run.exit ?_
 refine rg 1 [4] ?_
 refine Run.ret ?_
 exact ret_one (.tmp rfl .nil) (congrArg I (by rw [findI_none (fun j y hj => hI0 j y (by omega))]; rfl)) gv
theorem ac92 (s : Sk) (la : Option Addr) (lc : Nat) (pa : Option Addr) (pc : Nat) (RP : HP) (seq : Int) (hRP : RdS RP pa (s.past.flatMap Pa.c)) (hnp : s.past.length ≤ 1000000) : AC Tryz.prog 145 ⟨[.agg ⟨s.c la lc pa pc⟩, I seq]⟩ (stars [RP]) (Ret (Bo ((findI (isPast 1 seq) s.past).isSome || (findI (isPast 2 seq) s.past).isSome)) [RP]) := by
 refine eo Tryz.func145 fun β => ?_
 refine sr ?_
 refine obx rfl fun b2 => ?_
 refine sx 1 ?_
 refine kq [1, 2] ?_
 refine sr ?_
 refine sx 2 ?_
 refine RunL.call C132 rfl rfl rfl (ac132 s la lc pa pc RP _ seq (by decide) hRP hnp) tks ?_
 refine sx 2 ?_
 refine spl 9 rfl (fun g1 => ?_) fun g1 => ?_
 refine sx 6 ?_
 refine kq [4] ?_
 refine Run.ret ?_
 exact ret_one (.tmp rfl .nil) (congrArg Bo (by rw [← idx_some, ← idx_some]; simp [*])) gv
 refine sx 2 ?_
 refine RunL.callG C132 rfl rfl rfl rfl rfl (ac132 s la lc pa pc RP _ seq (by decide) hRP hnp) tks ?_
 refine sx 3 ?_
 refine kq [4] ?_
 refine Run.ret ?_
 exact ret_one (.tmp rfl .nil) (congrArg Bo (by rw [← idx_some, ← idx_some]; simp [*])) gv
theorem ac162 (s : Sk) (la : Option Addr) (lc : Nat) (pa : Option Addr) (pc : Nat) (RP : HP) (m : Mv) (hRP : RdS RP pa (s.past.flatMap Pa.c)) (hnp : s.past.length ≤ 1000000) : AC Tryz.prog 200 ⟨[.agg ⟨s.c la lc pa pc⟩, .agg ⟨m.c⟩]⟩ (stars [RP]) (Ret (.tuple ⟨[I (okIdx (refd (if m.kind = 3 then 2 else 1) m s.past)), I (errOf (refd (if m.kind = 3 then 2 else 1) m s.past))]⟩) [RP]) := by
 refine eo Tryz.func200 fun β => ?_
 refine sr ?_
 refine obx rfl fun b2 => ?_
 refine obx rfl fun b3 => ?_
 refine sx 2 ?_
 refine kq [2, 3] ?_
 refine rg 1 [2, 3, 6] ?_
 refine Run.seq ?_
 refine rg 3 [2, 3, 6, 10] ?_
 refine cnd rfl (fun h1 => ?_) fun h1 => ?_
 refine Run.region ?_
 refine sx 1 ?_
 refine kq [2, 3, 6] ?_
 refine sr ?_
 refine sx 4 ?_
 refine RunL.call C132 rfl rfl rfl (ac132 s la lc pa pc RP _ m.ref (by decide) hRP hnp) tks ?_
 refine sx 1 ?_
 refine kq [2, 3, 7] ?_
 refine Run.seq ?_
 refine sr ?_
 refine sx 2 ?_
 rcases hf : findI (isPast 2 m.ref) s.past with _ | ⟨i, x⟩
 refine kq [2, 3, 7, 17] ?_
 refine Run.true rfl ?_
 refine rg 2 [4, 5] ?_
 exact .ret (ret_one (.tmp rfl (.tmp rfl .nil)) (by simp [tup, refd, hf, okIdx, errOf, idxOf, *]) gv)
 obtain ⟨hx, _⟩ := findI_some hf
 have hi := (List.getElem?_eq_some_iff.1 hx).1
 simp only [idxOf]
 refine sF (show ¬ ((i : Int) < 0) by omega) ?_
 refine kq [2, 3, 7, 17] ?_
 refine Run.false rfl ?_
 refine Run.skip ?_
 refine Run.seq ?_
 refine Run.seq ?_
 refine regionD HM ?_
 refine RunD.rdOpen pk hRP (flat_ne (k := 7) (fun _ => rfl) (by decide) hx) fun b o e hrd => ?_
 subst e
 refine dx [0, 1, 2, 3, 4, 5, 6] ?_
 refine RunD.takeR1 7 rfl rfl kr T3 rfl pk (hrd.pa hx 3 (I x.qty) rfl) ?_
 refine dx [8, 9, 10, 11, 12] ?_
 refine RunD.takeR1 13 rfl rfl kr T3 rfl pk (hrd.pa hx 5 (I x.used) rfl) ?_
 refine tk 14 rfl rfl rfl (DetJ.sub rfl rfl) ?_
 refine dx [15] ?_
 refine kd [7, 33] rfl ?_
 refine cnd rfl (fun h2 => ?_) fun h2 => ?_
 refine rg 2 [4, 5] ?_
 exact .ret (ret_one (.tmp rfl (.tmp rfl .nil)) (by simp [tup, refd, hf, okIdx, errOf, idxOf, *]) gv)
 refine Run.skip ?_
 refine rg 3 [4, 5] ?_
 exact .ret (ret_one (.tmp rfl (.tmp rfl .nil)) (by simp [tup, refd, hf, okIdx, errOf, idxOf, *]) gv)
 refine Run.skip ?_
 refine sr ?_
 refine sx 4 ?_
 refine RunL.call C132 rfl rfl rfl (ac132 s la lc pa pc RP _ m.ref (by decide) hRP hnp) tks ?_
 refine sx 1 ?_
 refine kq [2, 3, 7] ?_
 refine Run.seq ?_
 refine sr ?_
 refine sx 2 ?_
 rcases hf : findI (isPast 1 m.ref) s.past with _ | ⟨i, x⟩
 refine kq [2, 3, 7, 17] ?_
 refine Run.true rfl ?_
 refine rg 2 [4, 5] ?_
 exact .ret (ret_one (.tmp rfl (.tmp rfl .nil)) (by simp [tup, refd, hf, okIdx, errOf, idxOf, *]) gv)
 obtain ⟨hx, _⟩ := findI_some hf
 have hi := (List.getElem?_eq_some_iff.1 hx).1
 simp only [idxOf]
 refine sF (show ¬ ((i : Int) < 0) by omega) ?_
 refine kq [2, 3, 7, 17] ?_
 refine Run.false rfl ?_
 refine Run.skip ?_
 refine Run.seq ?_
 refine Run.seq ?_
 refine regionD HM ?_
 refine RunD.rdOpen pk hRP (flat_ne (k := 7) (fun _ => rfl) (by decide) hx) fun b o e hrd => ?_
 subst e
 refine dx [0, 1, 2, 3, 4, 5, 6] ?_
 refine RunD.takeR1 7 rfl rfl kr T3 rfl pk (hrd.pa hx 3 (I x.qty) rfl) ?_
 refine dx [8, 9, 10, 11, 12] ?_
 refine RunD.takeR1 13 rfl rfl kr T3 rfl pk (hrd.pa hx 5 (I x.used) rfl) ?_
 refine tk 14 rfl rfl rfl (DetJ.sub rfl rfl) ?_
 refine dx [15] ?_
 refine kd [7, 33] rfl ?_
 refine cnd rfl (fun h3 => ?_) fun h3 => ?_
 refine rg 2 [4, 5] ?_
 exact .ret (ret_one (.tmp rfl (.tmp rfl .nil)) (by simp [tup, refd, hf, okIdx, errOf, idxOf, *]) gv)
 refine Run.skip ?_
 refine rg 3 [4, 5] ?_
 exact .ret (ret_one (.tmp rfl (.tmp rfl .nil)) (by simp [tup, refd, hf, okIdx, errOf, idxOf, *]) gv)
theorem ac95 (s : Sk) (la : Option Addr) (lc : Nat) (pa : Option Addr) (pc : Nat) (RL : HP) (v : Int) (hRL : RdS RL la (s.layers.flatMap Ly.c)) (hnl : s.layers.length ≤ 1000000) : AC Tryz.prog 148 ⟨[.agg ⟨s.c la lc pa pc⟩, I v]⟩ (stars [RL]) (Ret (Bo (fitsB s v)) [RL]) := by
 refine eo Tryz.func148 fun β => ?_
 refine sr ?_
 refine obx rfl fun b2 => ?_
 refine sx 1 ?_
 refine kq [1, 2] ?_
 refine Run.seq ?_
 refine sr ?_
 refine sx 4 ?_
 refine spl 9 rfl (fun g1 => ?_) fun g1 => ?_
 refine sx 17 ?_
 refine kq [2, 26] ?_
 refine Run.true rfl ?_
 refine rg 1 [4] ?_
 exact .ret (ret_one (.tmp rfl .nil) (congrArg Bo (fits_no (by omega))) gv)
 refine sx 5 ?_
 refine spl 14 rfl (fun g2 => ?_) fun g2 => ?_
 refine sx 12 ?_
 refine kq [2, 26] ?_
 refine Run.true rfl ?_
 refine rg 1 [4] ?_
 exact .ret (ret_one (.tmp rfl .nil) (congrArg Bo (fits_no (by omega))) gv)
 refine sx 5 ?_
 refine spl 19 rfl (fun g3 => ?_) fun g3 => ?_
 refine sx 7 ?_
 refine kq [2, 26] ?_
 refine Run.true rfl ?_
 refine rg 1 [4] ?_
 exact .ret (ret_one (.tmp rfl .nil) (congrArg Bo (fits_no (by omega))) gv)
 refine sx 4 ?_
 refine spl 23 rfl (fun g4 => ?_) fun g4 => ?_
 refine sx 3 ?_
 refine kq [2, 26] ?_
 refine Run.true rfl ?_
 refine rg 1 [4] ?_
 exact .ret (ret_one (.tmp rfl .nil) (congrArg Bo (fits_no (by omega))) gv)
 refine sx 3 ?_
 refine kq [2, 26] ?_
 refine cnd rfl (fun h5 => ?_) fun h5 => ?_
 refine rg 1 [4] ?_
 exact .ret (ret_one (.tmp rfl .nil) (congrArg Bo (fits_no (by omega))) gv)
 refine Run.skip ?_
 refine Run.seq ?_
 refine rg 1 [2, 5] ?_
 refine Run.block ?_
 refine Run.loop (fun mm E L => ∃ i : Nat, mm = s.layers.length - i ∧ i ≤ s.layers.length ∧ (∀ j y, j < i → s.layers[j]? = some y → (decide (1000000000000000 < y.value) || decide (y.value < -1000000000000000)) = false) ∧ E = [(2, .pointer (some ⟨b2, 0, none⟩)), (5, I i)] ∧ L = [pt b2 (blk (s.c la lc pa pc) 61), RL]) ⟨_, 0, rfl, Nat.zero_le _, fun _ _ h => by omega, rfl, rfl⟩ ?_
 rintro _ _ _ ⟨i, rfl, hi, hI0, rfl, rfl⟩
 refine Run.seq ?_
 refine rg 5 [2, 5, 31] ?_
 refine cnd rfl (fun h6 => ?_) fun h6 => ?_
 refine Run.skip ?_
 refine Run.seq ?_
 refine Run.block ?_
 refine sr ?_
 obtain ⟨x, hx⟩ := get_ex (xs := s.layers) (by omega)
 refine RunL.rdOpen pk hRL (flat_ne (k := 4) (fun _ => rfl) (by decide) hx) fun b o e hrd => ?_
 subst e
 refine sx 5 ?_
 refine RunL.op rfl rfl (OpJ.load1 T3 rfl pk (hrd.ly hx 3 (I x.value) rfl) ?_)
 refine sx 2 ?_
 refine spl 41 rfl (fun g7 => ?_) fun g7 => ?_
 refine sx 8 ?_
 refine kq [2, 5, 49] ?_
 refine Run.true rfl ?_
 refine rg 1 [4] ?_
 exact .ret (ret_one (.tmp rfl .nil) (congrArg Bo (fits_ly hx (by omega))) gv)
 refine sx 5 ?_
 refine RunL.yes rfl rfl rfl rfl (OpJ.load1 T3 rfl pk (hrd.ly hx 3 (I x.value) rfl) ?_)
 refine sx 2 ?_
 refine kq [2, 5, 49] ?_
 refine cnd rfl (fun h8 => ?_) fun h8 => ?_
 refine rg 1 [4] ?_
 exact .ret (ret_one (.tmp rfl .nil) (congrArg Bo (fits_ly hx (by omega))) gv)
 refine Run.skip ?_
 refine Run.region ?_
 refine sx 3 ?_
 exact RunL.next (Keep.sub (kt (ks := [2, 5]) rfl)) _ ⟨_, by omega, i + 1, rfl, by omega, notYet hx (by simp_all) hI0, rfl, rfl⟩ gv
 refine Run.exit ?_
 refine rg 1 [4] ?_
 exact .ret (ret_one (.tmp rfl .nil) (congrArg Bo (fits_yes (by omega) (by omega) hI0)) gv)
theorem ac161 (t : Sk) (la : Option Addr) (lc : Nat) (pa : Option Addr) (np pc : Nat) (i : Nat) (l : Ly) (q : Int) (hx : t.layers[i]? = some l) (hl : l.ok) (hq : i64 q) (hn : t.layers.length ≤ 1000000) : AC Tryz.prog 199 ⟨[.agg ⟨SC t la t.layers.length lc pa np pc⟩, I (i : Int), I q]⟩ (stars [own 96 4 la (t.layers).length lc ((t.layers).flatMap Ly.c)]) (Outs (fun _ : Option Addr × Nat => True) (fun x => .tuple ⟨[.agg ⟨SC { t with layers := takeL t.layers i l q } x.1 (takeL t.layers i l q).length x.2 pa np pc⟩, I (takeV l q)]⟩) (fun x => [own 96 4 x.1 (takeL t.layers i l q).length x.2 ((takeL t.layers i l q).flatMap Ly.c)])) := by
 have hi : i < t.layers.length := (List.getElem?_eq_some_iff.1 hx).1
 obtain ⟨hl1, hl2⟩ := hl
 have hx1 := set_get hx { l with qty := W (l.qty - q) }
 have hx2 := set_get hx (takeX l q)
 refine eo Tryz.func199 fun β => ?_
 refine sr ?_
 refine obx rfl fun b3 => ?_
 refine oal fun b6 => ?_
 refine sx 1 ?_
 refine kq [1, 2, 3, 6] ?_
 refine sr ?_
 refine RunL.ownAddr pk (flat_ne (k := 4) (fun _ => rfl) (by decide) hx) fun b e hcap => ?_
 subst e
 refine sx 5 ?_
 refine oal fun b8 => ?_
 refine sx 1 ?_
 refine kq [1, 2, 3, 6, 8] ?_
 refine sr ?_
 refine sx 5 ?_
 refine RunL.call C165 rfl rfl rfl (ac165 _ _ _ hl2 hq hl1) .nil ?_
 refine sx 1 ?_
 refine kq [1, 2, 3, 6, 8, 9] ?_
 refine sr ?_
 refine sx 6 ?_
 refine RunL.op rfl rfl (OpJ.sub rfl rfl ?_)
 refine sx 2 ?_
 refine RunL.op rfl rfl (OpJ.storeO (i := i) (u' := { l with qty := W (l.qty - q) }) T3 rfl rfl rfl hx (fun _ => rfl) (by decide) rfl up ?_)
 refine kq [1, 2, 3, 6, 8, 9] ?_
 refine sr ?_
 refine sx 6 ?_
 refine RunL.op rfl rfl (OpJ.sub rfl rfl ?_)
 refine sx 2 ?_
 refine RunL.op rfl rfl (OpJ.storeO (i := i) (u' := takeX l q) T3 rfl rfl rfl hx1 (fun _ => rfl) (by decide) rfl up ?_)
 rw [List.set_set]
 refine kq [1, 2, 3, 6, 8, 9] ?_
 refine Run.seq ?_
 refine rg 4 [1, 3, 6, 9, 43] ?_
 refine cnd rfl (fun h1 => ?_) fun h1 => ?_
 refine sr ?_
 refine RunL.op rfl rfl (OpJ.buildSlice0 S25 fun b44 => ?_)
 refine sx 3 ?_
 refine RunL.op rfl rfl (OpJ.sliceHi (i := i) S25 rfl rfl (by omega) ?_)
 refine RunL.op rfl rfl (OpJ.appendL (enc := Ly.c) (R := own 96 4 (some ⟨b, 0, none⟩) t.layers.length lc ((t.layers.set i (takeX l q)).flatMap Ly.c)) ([] : List Ly) (t.layers.take i) S25 M64 rfl rfl pk pk (own.take i (fun _ => rfl) (by rw [List.take_set_of_le (Nat.le_refl _)])) (by simp; omega) (fun _ => rfl) (by decide) Ly.one (by simp; omega) (by simp; omega) fun a49 c49 => ?_)
 refine sx 1 ?_
 refine kq [1, 3, 6, 9, 10] ?_
 refine Run.region ?_
 refine sx 5 ?_
 refine RunL.op rfl rfl (OpJ.sliceLo (i := i + 1) S25 rfl rfl (by omega) ?_)
 refine RunL.op rfl rfl (OpJ.appendL (enc := Ly.c) (R := own 96 4 (some ⟨b, 0, none⟩) t.layers.length lc ((t.layers.set i (takeX l q)).flatMap Ly.c)) ([] ++ t.layers.take i) (t.layers.drop (i + 1)) S25 M64 rfl rfl pk pk (own.drop (i + 1) (fun _ => rfl) (by rw [List.drop_set_of_lt (by omega)]) (by simp) hcap) (by simp) (fun _ => rfl) (by decide) Ly.one (by simp; omega) (by simp; omega) fun a56 c56 => ?_)
 rw [erase_app]
 refine sx 2 ?_
 refine kq [3, 6, 9] ?_
 refine rg 4 [6, 7] ?_
 refine Run.ret ?_
 refine ret_out (a56, c56) (.cellA T28 rfl pk (by rfl) (.tmp rfl .nil)) trivial (by rw [takeL_eq hl1 hq h1]; rfl) ?_; rw [takeL_eq hl1 hq h1]; exact gv
 refine Run.skip ?_
 refine rg 4 [6, 7] ?_
 refine Run.ret ?_
 refine ret_out (some ⟨b, 0, none⟩, lc) (.cellA T28 rfl pk (by rfl) (.tmp rfl .nil)) trivial (by rw [takeL_ne hl1 hq h1, List.length_set]; rfl) ?_; rw [takeL_ne hl1 hq h1, List.length_set]; exact gv
end
end Go.Proofs.YtcpghpifbgpkjaaGreatDoor

namespace Go.Proofs.YtcpghpifbgpkjaaGreatDoor
open Go Go.SL Go.Proofs
theorem ac162k (s : Sk) (la : Option Addr) (lc : Nat) (pa : Option Addr) (pc : Nat) (RP : HP) (m : Mv) (k : Int) (hk : k = if m.kind = 3 then 2 else 1) (hRP : RdS RP pa (s.past.flatMap Pa.c)) (hnp : s.past.length ≤ 1000000) : AC Tryz.prog 200 ⟨[.agg ⟨s.c la lc pa pc⟩, .agg ⟨m.c⟩]⟩ (stars [RP]) (Ret (.tuple ⟨[I (okIdx (refd k m s.past)), I (errOf (refd k m s.past))]⟩) [RP]) := by
  subst hk; exact ac162 s la lc pa pc RP m hRP hnp
section
attribute [local irreducible] OpJ RunL Run RunD DetJ pt own star Rd RdS
theorem ac133 (t : Sk) (la : Option Addr) (lc : Nat) (pa : Option Addr) (np pc : Nat) (q : Int) (ht : t.ok 999999) (hq : i64 q) : AC Tryz.prog 177 ⟨[.agg ⟨SC t la t.layers.length lc pa np pc⟩, I q]⟩ (stars [own 96 4 la (t.layers).length lc ((t.layers).flatMap Ly.c)]) (Outs (fun _ : Option Addr × Nat => True) (fun x => .tuple ⟨[.agg ⟨SC { t with layers := (issueL t.layers q 0).1 } x.1 (issueL t.layers q 0).1.length x.2 pa np pc⟩, I (issueL t.layers q 0).2]⟩) (fun x => [own 96 4 x.1 ((issueL t.layers q 0).1).length x.2 (((issueL t.layers q 0).1).flatMap Ly.c)])) := by
 have hnl := ht.nl
 refine eo Tryz.func177 fun β => ?_
 refine sr ?_
 refine obx rfl fun b2 => ?_
 refine oal fun b4 => ?_
 refine sx 1 ?_
 refine kq [1, 2, 4] ?_
 refine rg 1 [1, 2, 4, 6] ?_
 refine Run.seq ?_
 refine Run.block ?_
 refine Run.loop (fun mm E L => ∃ (ls : List Ly) (left v : Int) (la : Option Addr) (lc : Nat), mm = issM ls left ∧ issueL ls left v = issueL t.layers q 0 ∧ ls.length ≤ t.layers.length ∧ (∀ (i : Nat) (l : Ly), ls[i]? = some l → l.ok) ∧ i64 left ∧ i64 v ∧ E = [(1, I left), (2, .pointer (some ⟨b2, 0, none⟩)), (4, .pointer (some ⟨b4, 0, none⟩)), (6, I v)] ∧ L = [pt b4 (blk [I 0, I 0, I 0, .slice none 0 0, .slice none 0 0] 61), pt b2 (blk (SC t la ls.length lc pa np pc) 61), own 96 4 la (ls).length lc ((ls).flatMap Ly.c)]) ⟨_, t.layers, q, 0, la, lc, rfl, rfl, Nat.le_refl _, ht.ly, hq, by decide, rfl, rfl⟩ ?_
 rintro _ _ _ ⟨ls, left, v, la, lc, rfl, hI, hle, hlo, hl64, hv64, rfl, rfl⟩
 refine Run.seq ?_
 refine sr ?_
 refine RunL.cut (t := 16) (v := Bo (decide (0 < left ∧ 0 < (ls.length : Int)))) (kt (ks := [1, 2, 4, 6]) rfl) ?_ ?_
 refine sx 3 ?_
 refine spl 11 rfl (fun g1 => ?_) fun g1 => ?_
 refine sx 5 ?_
 exact RunL.nil ⟨.cons (by first | rfl | (show some (Value.bool _) = some (Value.bool _); rw [decide_eq_false (show ¬ (0 < left ∧ 0 < (ls.length : Int)) by omega)]) | (show some (Value.bool _) = some (Value.bool _); simp_all)) (kt (ks := [1, 2, 4, 6]) rfl), rfl⟩
 refine sx 5 ?_
 exact RunL.nil ⟨.cons (by first | rfl | (show some (Value.bool _) = some (Value.bool _); rw [decide_eq_false (show ¬ (0 < left ∧ 0 < (ls.length : Int)) by omega)]) | (show some (Value.bool _) = some (Value.bool _); simp_all)) (kt (ks := [1, 2, 4, 6]) rfl), rfl⟩
 refine cnd rfl (fun h2 => ?_) fun h2 => ?_
 refine Run.skip ?_
 refine Run.block ?_
 refine sr ?_
 obtain ⟨l, ls, rfl⟩ : ∃ l ls', ls = l :: ls' := (by cases ls with | nil => simp at h2 | cons l ls => exact ⟨l, ls, rfl⟩)
 have hx0 : (l :: ls)[0]? = some l := rfl
 have hlk := hlo 0 l rfl
 have hst := issue_step (l := l) (ls := ls) (v := v) h2.1 hl64 hlk.1
 have hq1 := hlk.1
 refine RunL.ownAddr pk (flat_ne (k := 4) (fun _ => rfl) (by decide) hx0) fun b e hcap => ?_
 subst e
 refine sx 8 ?_
 refine kq [1, 2, 4, 6, 7] ?_
 refine rg 1 [1, 2, 4, 6, 7] ?_
 refine sr ?_
 refine sx 2 ?_
 refine RunL.callX C161 rfl rfl rfl (ac161 { t with layers := l :: ls } _ lc pa np pc 0 l _ hx0 hlk (by split <;> omega) (Nat.le_trans hle (Nat.le_trans hnl (by decide)))) tks fun ⟨la2, lc2⟩ _ => ?_
 refine sx 5 ?_
 refine kq [1, 2, 4, 6, 7, 8] ?_
 refine sr ?_
 refine sx 2 ?_
 refine RunL.op rfl rfl (OpJ.add rfl rfl ?_)
 refine sx 1 ?_
 refine kq [1, 2, 4, 6, 7] ?_
 refine Run.region ?_
 refine sx 2 ?_
 refine RunL.op rfl rfl (OpJ.sub rfl rfl ?_)
 refine sx 1 ?_
 exact RunL.next (Keep.sub (kt (ks := [1, 2, 4, 6]) rfl)) _ ⟨_, hst.2, _, _, _, _, _, rfl, hst.1.trans hI, Nat.le_trans takeL_len hle, takeL_ok hlo, W_i64 _, W_i64 _, rfl, rfl⟩ gv
 refine Run.exit ?_
 refine rg 4 [4, 5] ?_
 refine Run.ret ?_
 rw [← hI, issue_done h2]; exact ret_out (la, lc) (.cellA T28 rfl pk (by rfl) (.tmp rfl .nil)) trivial rfl gv
theorem ac134 (t : Sk) (m : Mv) (la : Option Addr) (lc : Nat) (pa : Option Addr) (pc : Nat) (ht : t.ok 999999) (hm : m.ok) (hk : m.kind = 3) : AC Tryz.prog 178 ⟨[.agg ⟨t.c la lc pa pc⟩, .agg ⟨m.c⟩]⟩ (stars [own 96 4 la (t.layers).length lc ((t.layers).flatMap Ly.c), own 98 7 pa (t.past).length pc ((t.past).flatMap Pa.c)]) (Outs (fun _ : Option Addr × Nat × Option Addr × Nat => True) (fun x => RmV t la lc pa pc (fBack t m co0) x) (fun x => StB 96 98 (fBack t m co0) x)) := by
 have hn : t.layers.length ≤ 1000000 ∧ t.past.length ≤ 1000000 := ⟨Nat.le_trans ht.nl (by decide), Nat.le_trans ht.np (by decide)⟩
 have hnl := ht.nl; have hnp := ht.np
 obtain ⟨hm1, hm2⟩ := hm
 refine eo Tryz.func178 fun β => ?_
 refine sr ?_
 refine obx rfl fun b2 => ?_
 refine obx rfl fun b3 => ?_
 refine oal fun b4 => ?_
 refine oal fun b5 => ?_
 refine sx 1 ?_
 refine kq [2, 3, 4, 5] ?_
 refine sr ?_
 refine sx 2 ?_
 refine RunL.call C162 rfl rfl rfl (ac162k t la lc pa pc (own 98 7 pa (t.past).length pc ((t.past).flatMap Pa.c)) m 2 (by rw [hk]; decide) own.rds hn.2) tks ?_
 refine sx 5 ?_
 refine kq [2, 3, 4, 5, 7, 8] ?_
 refine Run.seq ?_
 refine rg 2 [2, 3, 4, 5, 7, 8, 17] ?_
 refine cnd rfl (fun h1 => ?_) fun h1 => ?_
 refine sr ?_
 obtain ⟨e, he⟩ := errOf_ne h1
 refine sx 6 ?_
 refine kq [4, 5, 6] ?_
 refine Run.ret ?_
 have hres : fBack t m co0 = .error e := (by unfold fBack; rw [he]); rw [he]; refine ret_out (none, 0, none, 0) (.cellA T28 rfl pk (by rfl) (.cellA T43 rfl pk (by rfl) (.tmp rfl .nil))) trivial (by rw [hres]; rfl) ?_; rw [hres]; exact gv
 refine Run.skip ?_
 refine Run.seq ?_
 refine regionD HM ?_
 obtain ⟨i, p, hr, hx⟩ := refd_ok (Decidable.not_not.1 h1)
 rw [hr]
 have hi := (List.getElem?_eq_some_iff.1 hx).1
 obtain ⟨hp1, hp2, hp3, hp4⟩ := ht.pa i p hx
 refine RunD.ownAddr pk (flat_ne (k := 7) (fun _ => rfl) (by decide) hx) fun b e hcap => ?_
 subst e
 simp only [okIdx]
 refine dx [0, 1, 2, 3, 4, 5, 6] ?_
 refine RunD.op 7 [false, false, false, false, false, false, true] rfl rfl rfl kr kr (OpJ.callRet C163 rfl rfl (ac163 p m hm1) .nil ⟨po, ?_⟩)
 refine dx [8] ?_
 refine kd [2, 3, 4, 5, 7, 9] rfl ?_
 refine Run.seq ?_
 refine regionD HM ?_
 refine dx [0, 1, 2, 3, 4, 5, 6, 7, 8, 9, 10] ?_
 refine tk 11 rfl rfl rfl (DetJ.add rfl rfl) ?_
 refine dx [12, 13] ?_
 refine RunD.op 14 [false, false, false, false, false, false, false, false, false, false, false, false, false, false] rfl rfl rfl kr kr (OpJ.storeO (i := i) (u' := sendP p m) T3 rfl rfl rfl hx (fun _ => rfl) (by decide) rfl up ⟨po, ?_⟩)
 refine kd [2, 3, 4, 5, 7, 9] rfl ?_
 refine Run.seq ?_
 refine regionD HM ?_
 have hx1 := set_get hx (sendP p m)
 refine dx [0, 1, 2, 3, 4, 5, 6, 7, 8, 9] ?_
 refine tk 10 rfl rfl rfl (DetJ.add rfl rfl) ?_
 refine dx [11, 12] ?_
 refine RunD.op 13 [false, false, false, false, false, false, false, false, false, false, false, false, false] rfl rfl rfl kr kr (OpJ.storeO (i := i) (u' := backP p m) T3 rfl rfl rfl hx1 (fun _ => rfl) (by decide) rfl up ⟨po, ?_⟩)
 rw [List.set_set]
 refine kd [2, 3, 4, 5, 7, 9] rfl ?_
 refine Run.seq ?_
 refine regionD HM ?_
 have hx2 := set_get hx (backP p m)
 refine dx [0, 1, 2, 3, 4, 5, 6, 7, 8, 9, 10, 11, 12, 13] ?_
 refine RunD.op 14 [false, false, false, false, false, false, true, true, true, true, false, false, true, true] rfl rfl rfl kr kr (OpJ.buildSlice1 S25 rfl rfl rfl (by decide) (by decide) Z64 rfl fun b70 => ⟨po, ?_⟩)
 refine RunD.op 15 [true, true, true, true, false, false] rfl rfl rfl kr kr (OpJ.append1 (⟨m.seq, p.lot, m.qty, backV p m⟩ : Ly) S25 M64 rfl rfl pk pk rfl rfl (by simp [Value.oneCell', Pa.c, Ly.c, Mv.c, Co.c]) rfl (by omega) (by omega) fun a71 c71 => ⟨po, ?_⟩)
 refine dx [16] ?_
 refine RunD.op 17 [false, false, false, false, false] rfl rfl rfl kr kr (OpJ.store1 T25 rfl rfl rfl up (by simp) ⟨po, ?_⟩)
 refine kd [2, 3, 4, 5, 9] rfl ?_
 refine Run.seq ?_
 refine regionD HM ?_
 refine dx [0, 1, 2, 3, 4] ?_
 refine dsw 5 [true, true, true, true, false] ?_
 refine dsw 6 [false, false, false, false] ?_
 refine dx [7] ?_
 refine kd [4, 5, 6] rfl ?_
 refine Run.ret ?_
 have hres : fBack t m co0 = .ok _ := (by unfold fBack; rw [hr]); refine ret_out (a71, c71, (some ⟨b, 0, none⟩), pc) (.cellA T28 rfl pk (by rfl) (.cellA T43 rfl pk (by rfl) (.tmp rfl .nil))) trivial (by rw [hres]; simp only [RmV, RmS, Sk.c, List.length_set]; rfl) ?_; rw [hres]; simp only [StB, List.length_set, List.length_append]; exact gv
theorem ac135 (t : Sk) (m : Mv) (la : Option Addr) (lc : Nat) (pa : Option Addr) (pc : Nat) (ht : t.ok 999999) (hm : m.ok) (hk : m.kind = 4) : AC Tryz.prog 179 ⟨[.agg ⟨t.c la lc pa pc⟩, .agg ⟨m.c⟩]⟩ (stars [own 96 4 la (t.layers).length lc ((t.layers).flatMap Ly.c), own 98 7 pa (t.past).length pc ((t.past).flatMap Pa.c)]) (Outs (fun _ : Option Addr × Nat × Option Addr × Nat => True) (fun x => RmV t la lc pa pc (fSend t m co0) x) (fun x => StB 96 98 (fSend t m co0) x)) := by
 have hn : t.layers.length ≤ 1000000 ∧ t.past.length ≤ 1000000 := ⟨Nat.le_trans ht.nl (by decide), Nat.le_trans ht.np (by decide)⟩
 have hnl := ht.nl; have hnp := ht.np
 obtain ⟨hm1, hm2⟩ := hm
 refine eo Tryz.func179 fun β => ?_
 refine sr ?_
 refine obx rfl fun b2 => ?_
 refine obx rfl fun b3 => ?_
 refine oal fun b4 => ?_
 refine oal fun b5 => ?_
 refine sx 1 ?_
 refine kq [2, 3, 4, 5] ?_
 refine sr ?_
 refine sx 2 ?_
 refine RunL.call C162 rfl rfl rfl (ac162k t la lc pa pc (own 98 7 pa (t.past).length pc ((t.past).flatMap Pa.c)) m 1 (by rw [hk]; decide) own.rds hn.2) tks ?_
 refine sx 5 ?_
 refine kq [2, 3, 4, 5, 7, 8] ?_
 refine Run.seq ?_
 refine rg 2 [2, 3, 4, 5, 7, 8, 18] ?_
 refine cnd rfl (fun h1 => ?_) fun h1 => ?_
 refine sr ?_
 obtain ⟨e, he⟩ := errOf_ne h1
 refine sx 6 ?_
 refine kq [4, 5, 6] ?_
 refine Run.ret ?_
 have hres : fSend t m co0 = .error e := (by unfold fSend; rw [he]); rw [he]; refine ret_out (none, 0, none, 0) (.cellA T28 rfl pk (by rfl) (.cellA T43 rfl pk (by rfl) (.tmp rfl .nil))) trivial (by rw [hres]; rfl) ?_; rw [hres]; exact gv
 refine Run.skip ?_
 refine sr ?_
 obtain ⟨i, p, hr, hx⟩ := refd_ok (Decidable.not_not.1 h1)
 rw [hr]
 have hi := (List.getElem?_eq_some_iff.1 hx).1
 obtain ⟨hp1, hp2, hp3, hp4⟩ := ht.pa i p hx
 refine RunL.ownAddr pk (flat_ne (k := 7) (fun _ => rfl) (by decide) hx) fun b e hcap => ?_
 subst e
 simp only [okIdx]
 refine sx 3 ?_
 refine RunL.call C164 rfl rfl rfl (ac164 t la lc _ pc (own 96 4 la (t.layers).length lc ((t.layers).flatMap Ly.c)) m.ref own.rds hn.1) tks ?_
 refine sx 1 ?_
 rcases hf : findI (isLy m.ref) t.layers with _ | ⟨j, l⟩
 refine kq [2, 3, 4, 5, 7, 9] ?_
 refine Run.seq ?_
 refine Run.seq ?_
 refine regionD HM ?_
 refine dx [0, 1] ?_
 first | refine RunD.set (congrArg Value.bool (decide_eq_false (show ¬ ((j : Int) < 0) by omega))) ?_ | skip
 refine tk 2 rfl rfl rfl (DetJ.move rfl) ?_
 refine RunD.takeN 3 rfl rfl rfl rfl rfl kr ?_
 refine RunD.takeN 4 rfl rfl rfl rfl rfl kr ?_
 refine RunD.takeN 5 rfl rfl rfl rfl rfl kr ?_
 refine RunD.takeN 6 rfl rfl rfl rfl rfl kr ?_
 refine RunD.takeN 7 rfl rfl rfl rfl rfl kr ?_
 refine RunD.takeN 8 rfl rfl rfl rfl rfl kr ?_
 refine RunD.takeN 9 rfl rfl rfl rfl rfl kr ?_
 refine RunD.takeN 10 rfl rfl rfl rfl rfl kr ?_
 refine RunD.takeN 11 rfl rfl rfl rfl rfl kr ?_
 refine tk 12 rfl rfl rfl (DetJ.pickT rfl rfl) ?_
 refine kd [2, 3, 4, 5, 7, 9, 38] rfl ?_
 refine Run.true rfl ?_
 refine rg 5 [4, 5, 6] ?_
 refine Run.ret ?_
 have hres : fSend t m co0 = .error 21 := (by unfold fSend; rw [hr]; simp only [hf]); refine ret_out (none, 0, none, 0) (.cellA T28 rfl pk (by rfl) (.cellA T43 rfl pk (by rfl) (.tmp rfl .nil))) trivial (by rw [hres]; rfl) ?_; rw [hres]; exact gv
 obtain ⟨hy, _⟩ := findI_some hf
 have hj := (List.getElem?_eq_some_iff.1 hy).1
 have hly := ht.ly j l hy
 have hl1 := hly.1
 refine RunL.ownAddr pk (flat_ne (k := 4) (fun _ => rfl) (by decide) hy) fun b2 e hcap => ?_
 subst e
 simp only [idxOf]
 refine kq [2, 3, 4, 5, 7, 9] ?_
 refine Run.seq ?_
 refine Run.seq ?_
 refine regionD HM ?_
 refine dx [0, 1] ?_
 first | refine RunD.set (congrArg Value.bool (decide_eq_false (show ¬ ((j : Int) < 0) by omega))) ?_ | skip
 refine tk 2 rfl rfl rfl (DetJ.move rfl) ?_
 refine RunD.takeG 3 rfl rfl rfl rfl rfl kr (DetJ.fieldAddr F28_3 rfl) .nil ?_
 first | refine RunD.takeGF 4 rfl rfl rfl rfl kr T25 rfl pk (by rfl) ?_ | refine RunD.takeGO 4 rfl rfl rfl rfl kr T25 rfl pk (by assumption) (by rfl) (by exact fun _ => rfl) ?_
 refine RunD.takeG 5 rfl rfl rfl rfl rfl kr (DetJ.move rfl) .nil ?_
 refine RunD.takeG 6 rfl rfl rfl rfl rfl kr (DetJ.indexAddr S25 rfl rfl (by omega)) .nil ?_
 refine RunD.takeG 7 rfl rfl rfl rfl rfl kr (DetJ.fieldAddr F64_2 rfl) .nil ?_
 first | refine RunD.takeGF 8 rfl rfl rfl rfl kr T3 rfl pk (by rfl) ?_ | refine RunD.takeGO 8 rfl rfl rfl rfl kr T3 rfl pk (by assumption) (by rfl) (by exact fun _ => rfl) ?_
 refine RunD.takeG 9 rfl rfl rfl rfl rfl kr (DetJ.fieldAddr F47_4 rfl) .nil ?_
 first | refine RunD.takeGF 10 rfl rfl rfl rfl kr T3 rfl pk (by rfl) ?_ | refine RunD.takeGO 10 rfl rfl rfl rfl kr T3 rfl pk (by assumption) (by rfl) (by exact fun _ => rfl) ?_
 refine RunD.takeG 11 rfl rfl rfl rfl rfl kr (DetJ.lss rfl rfl) .nil ?_
 refine tk 12 rfl rfl rfl (DetJ.pickF rfl rfl) ?_
 refine kd [2, 3, 4, 5, 7, 9, 38] rfl ?_
 refine cnd rfl (fun h2 => ?_) fun h2 => ?_
 refine rg 5 [4, 5, 6] ?_
 refine Run.ret ?_
 have hres : fSend t m co0 = .error 21 := (by unfold fSend; rw [hr]; simp only [hf]; rw [if_pos (by assumption)]); refine ret_out (none, 0, none, 0) (.cellA T28 rfl pk (by rfl) (.cellA T43 rfl pk (by rfl) (.tmp rfl .nil))) trivial (by rw [hres]; rfl) ?_; rw [hres]; exact gv
 refine Run.skip ?_
 refine Run.seq ?_
 refine regionD HM ?_
 refine dx [0, 1, 2, 3, 4, 5, 6, 7, 8, 9, 10] ?_
 refine tk 11 rfl rfl rfl (DetJ.add rfl rfl) ?_
 refine dx [12, 13] ?_
 refine RunD.op 14 [false, false, false, false, false, false, false, false, false, false, false, false, false, false] rfl rfl rfl kr kr (OpJ.storeO (i := i) (u' := sendP p m) T3 rfl rfl rfl hx (fun _ => rfl) (by decide) rfl up ⟨po, ?_⟩)
 refine kd [2, 3, 4, 5, 9] rfl ?_
 refine sr ?_
 refine sx 4 ?_
 refine RunL.callX C161 rfl rfl rfl (ac161 { t with past := t.past.set i (sendP p m) } _ lc _ t.past.length pc j l m.qty hy hly hm1 hn.1) tks fun ⟨la2, lc2⟩ _ => ?_
 refine sx 5 ?_
 refine kq [2, 3, 4, 5, 10] ?_
 refine Run.seq ?_
 refine regionD HM ?_
 refine dx [0, 1, 2, 3, 4, 5, 6, 7, 8] ?_
 refine tk 9 rfl rfl rfl (DetJ.sub rfl rfl) ?_
 refine dx [10] ?_
 refine dsw 11 [true, true, true, true, true, true, true, true, true, true, false] ?_
 refine dsw 12 [false, false, false, false, false, false, false, false, false, false] ?_
 refine dx [13] ?_
 refine kd [4, 5, 6] rfl ?_
 refine Run.ret ?_
 have hres : fSend t m co0 = .ok _ := (by unfold fSend; rw [hr]; simp only [hf]; rw [if_neg (by assumption)]); refine ret_out (la2, lc2, (some ⟨b, 0, none⟩), pc) (.cellA T28 rfl pk (by rfl) (.cellA T43 rfl pk (by rfl) (.tmp rfl .nil))) trivial (by rw [hres]; simp only [RmV, RmS, Sk.c, List.length_set]; rfl) ?_; rw [hres]; simp only [StB, List.length_set, List.length_append]; exact gv
theorem ac136 (t : Sk) (m : Mv) (la : Option Addr) (lc : Nat) (pa : Option Addr) (pc : Nat) (ht : t.ok 999999) (hm : m.ok) (hq0 : m.qty = 0) (hg : ∀ (i : Nat) (p : Pa), t.past[i]? = some p → 0 ≤ W (p.qty - p.used)) : AC Tryz.prog 180 ⟨[.agg ⟨t.c la lc pa pc⟩, .agg ⟨m.c⟩]⟩ (stars [own 96 4 la (t.layers).length lc ((t.layers).flatMap Ly.c), own 98 7 pa (t.past).length pc ((t.past).flatMap Pa.c)]) (Outs (fun _ : Option Addr × Nat × Option Addr × Nat => True) (fun x => RmV t la lc pa pc (fLand t m co0) x) (fun x => StB 96 98 (fLand t m co0) x)) := by
 have hn : t.layers.length ≤ 1000000 ∧ t.past.length ≤ 1000000 := ⟨Nat.le_trans ht.nl (by decide), Nat.le_trans ht.np (by decide)⟩
 have hnl := ht.nl; have hnp := ht.np
 obtain ⟨hm1, hm2⟩ := hm
 refine eo Tryz.func180 fun β => ?_
 refine sr ?_
 refine obx rfl fun b2 => ?_
 refine obx rfl fun b3 => ?_
 refine oal fun b4 => ?_
 refine oal fun b5 => ?_
 refine sx 1 ?_
 refine kq [2, 3, 4, 5] ?_
 refine sr ?_
 refine sx 3 ?_
 refine RunL.call C132 rfl rfl rfl (ac132 t la lc pa pc (own 98 7 pa (t.past).length pc ((t.past).flatMap Pa.c)) 1 m.ref (by decide) own.rds hn.2) tks ?_
 refine sx 1 ?_
 rcases hf1 : findI (isPast 1 m.ref) t.past with _ | ⟨i, p⟩
 refine kq [2, 3, 4, 5, 7] ?_
 refine Run.seq ?_
 refine sr ?_
 refine sx 2 ?_
 first | refine RunL.set (congrArg Value.bool (decide_eq_false (show ¬ ((i : Int) < 0) by omega))) ?_ | skip
 refine kq [2, 3, 4, 5, 7, 15] ?_
 refine Run.true rfl ?_
 refine rg 5 [4, 5, 6] ?_
 refine Run.ret ?_
 have hres := fLand_none (t := t) (m := m) hf1; refine ret_out (none, 0, none, 0) (.cellA T28 rfl pk (by rfl) (.cellA T43 rfl pk (by rfl) (.tmp rfl .nil))) trivial (by rw [hres]; rfl) ?_; rw [hres]; exact gv
 have hr := refd_fine hf1 hq0 hg
 obtain ⟨hx, _⟩ := findI_some hf1
 have hi := (List.getElem?_eq_some_iff.1 hx).1
 obtain ⟨hp1, hp2, hp3, hp4⟩ := ht.pa i p hx
 refine RunL.ownAddr pk (flat_ne (k := 7) (fun _ => rfl) (by decide) hx) fun b e hcap => ?_
 subst e
 simp only [idxOf]
 refine kq [2, 3, 4, 5, 7] ?_
 refine Run.seq ?_
 refine sr ?_
 refine sx 2 ?_
 first | refine RunL.set (congrArg Value.bool (decide_eq_false (show ¬ ((i : Int) < 0) by omega))) ?_ | skip
 refine kq [2, 3, 4, 5, 7, 15] ?_
 refine Run.false rfl ?_
 refine Run.skip ?_
 refine sr ?_
 refine sx 3 ?_
 refine RunL.call C164 rfl rfl rfl (ac164 t la lc _ pc (own 96 4 la (t.layers).length lc ((t.layers).flatMap Ly.c)) m.ref own.rds hn.1) tks ?_
 refine sx 1 ?_
 rcases hf : findI (isLy m.ref) t.layers with _ | ⟨j, l⟩
 refine kq [2, 3, 4, 5, 7, 8] ?_
 refine Run.seq ?_
 refine sr ?_
 refine sx 2 ?_
 first | refine RunL.set (congrArg Value.bool (decide_eq_false (show ¬ ((j : Int) < 0) by omega))) ?_ | skip
 refine kq [2, 3, 4, 5, 7, 8, 23] ?_
 refine Run.true rfl ?_
 refine Run.seq ?_
 refine regionD HM ?_
 refine dx [0, 1, 2, 3] ?_
 refine dsw 4 [true, true, true, false] ?_
 refine dsw 5 [false, false, false] ?_
 refine dx [6] ?_
 refine kd [4, 5, 6] rfl ?_
 refine Run.ret ?_
 have hres := fLand_no (t := t) (m := m) hr hf hm2; refine ret_out (la, lc, (some ⟨b, 0, none⟩), pc) (.cellA T28 rfl pk (by rfl) (.cellA T43 rfl pk (by rfl) (.tmp rfl .nil))) trivial (by rw [hres]; simp only [RmV, RmS, Sk.c, List.length_set]; rfl) ?_; rw [hres]; simp only [StB, List.length_set, List.length_append]; exact gv
 obtain ⟨hy, _⟩ := findI_some hf
 have hj := (List.getElem?_eq_some_iff.1 hy).1
 have hly := ht.ly j l hy
 have hl1 := hly.1
 refine RunL.ownAddr pk (flat_ne (k := 4) (fun _ => rfl) (by decide) hy) fun b2 e hcap => ?_
 subst e
 simp only [idxOf]
 refine kq [2, 3, 4, 5, 7, 8] ?_
 refine Run.seq ?_
 refine sr ?_
 refine sx 2 ?_
 first | refine RunL.set (congrArg Value.bool (decide_eq_false (show ¬ ((j : Int) < 0) by omega))) ?_ | skip
 refine kq [2, 3, 4, 5, 7, 8, 23] ?_
 refine Run.false rfl ?_
 refine Run.skip ?_
 refine Run.seq ?_
 refine regionD HM ?_
 refine dx [0, 1, 2, 3, 4, 5, 6, 7, 8, 9, 10, 11, 12, 13] ?_
 refine RunD.op 14 [false, false, false, true, true, true, false, false, false, true, true, true, false, false] rfl rfl rfl kr kr (OpJ.callRet C165 rfl rfl (ac165 _ _ _ hm2 hl1 hp1) .nil ⟨po, ?_⟩)
 refine dx [15] ?_
 refine kd [2, 3, 4, 5, 8, 9] rfl ?_
 refine Run.seq ?_
 refine regionD HM ?_
 refine dx [0, 1, 2, 3, 4, 5, 6, 7, 8, 9] ?_
 refine tk 10 rfl rfl rfl (DetJ.add rfl rfl) ?_
 refine dx [11, 12] ?_
 refine RunD.op 13 [false, false, false, false, false, false, false, false, false, false, false, false, false] rfl rfl rfl kr kr (OpJ.storeO (i := j) (u' := { l with value := W (l.value + partN m.cost l.qty p.qty) }) T3 rfl rfl rfl hy (fun _ => rfl) (by decide) rfl up ⟨po, ?_⟩)
 refine kd [2, 3, 4, 5, 9] rfl ?_
 refine Run.seq ?_
 refine regionD HM ?_
 refine dx [0, 1, 2, 3, 4] ?_
 refine tk 5 rfl rfl rfl (DetJ.sub rfl rfl) ?_
 refine dx [6] ?_
 refine dsw 7 [true, true, true, true, true, true, false] ?_
 refine dsw 8 [false, false, false, false, false, false] ?_
 refine dx [9] ?_
 refine kd [4, 5, 6] rfl ?_
 refine Run.ret ?_
 have hres := fLand_ok (t := t) (m := m) hr hf; refine ret_out ((some ⟨b2, 0, none⟩), lc, (some ⟨b, 0, none⟩), pc) (.cellA T28 rfl pk (by rfl) (.cellA T43 rfl pk (by rfl) (.tmp rfl .nil))) trivial (by rw [hres]; simp only [RmV, RmS, Sk.c, List.length_set]; rfl) ?_; rw [hres]; simp only [StB, List.length_set, List.length_append]; exact gv
end
end Go.Proofs.YtcpghpifbgpkjaaGreatDoor

namespace Go.Proofs.YtcpghpifbgpkjaaGreatDoor
open Go Go.SL Go.Proofs
theorem acr3 (t : Sk) (m : Mv) (la : Option Addr) (lc : Nat) (pa : Option Addr) (pc : Nat) (ht : t.ok 999999) (hm : m.ok) (hk : m.kind = 3) (hq0 : m.kind = 5 → m.qty = 0) (hg : ∀ (i : Nat) (p : Pa), t.past[i]? = some p → 0 ≤ W (p.qty - p.used)) : AC Tryz.prog 178 ⟨[.agg ⟨t.c la lc pa pc⟩, .agg ⟨m.c⟩]⟩ (stars [own 96 4 la (t.layers).length lc ((t.layers).flatMap Ly.c), own 98 7 pa (t.past).length pc ((t.past).flatMap Pa.c)]) (Outs (fun _ : Option Addr × Nat × Option Addr × Nat => True) (fun x => RmV t la lc pa pc (fDo t m co0) x) (fun x => StB 96 98 (fDo t m co0) x)) := by
  rw [fDo_3 hk]; exact ac134 t m la lc pa pc ht hm hk
theorem acr4 (t : Sk) (m : Mv) (la : Option Addr) (lc : Nat) (pa : Option Addr) (pc : Nat) (ht : t.ok 999999) (hm : m.ok) (hk : m.kind = 4) (hq0 : m.kind = 5 → m.qty = 0) (hg : ∀ (i : Nat) (p : Pa), t.past[i]? = some p → 0 ≤ W (p.qty - p.used)) : AC Tryz.prog 179 ⟨[.agg ⟨t.c la lc pa pc⟩, .agg ⟨m.c⟩]⟩ (stars [own 96 4 la (t.layers).length lc ((t.layers).flatMap Ly.c), own 98 7 pa (t.past).length pc ((t.past).flatMap Pa.c)]) (Outs (fun _ : Option Addr × Nat × Option Addr × Nat => True) (fun x => RmV t la lc pa pc (fDo t m co0) x) (fun x => StB 96 98 (fDo t m co0) x)) := by
  rw [fDo_4 hk]; exact ac135 t m la lc pa pc ht hm hk
theorem acr5 (t : Sk) (m : Mv) (la : Option Addr) (lc : Nat) (pa : Option Addr) (pc : Nat) (ht : t.ok 999999) (hm : m.ok) (hk : m.kind = 5) (hq0 : m.kind = 5 → m.qty = 0) (hg : ∀ (i : Nat) (p : Pa), t.past[i]? = some p → 0 ≤ W (p.qty - p.used)) : AC Tryz.prog 180 ⟨[.agg ⟨t.c la lc pa pc⟩, .agg ⟨m.c⟩]⟩ (stars [own 96 4 la (t.layers).length lc ((t.layers).flatMap Ly.c), own 98 7 pa (t.past).length pc ((t.past).flatMap Pa.c)]) (Outs (fun _ : Option Addr × Nat × Option Addr × Nat => True) (fun x => RmV t la lc pa pc (fDo t m co0) x) (fun x => StB 96 98 (fDo t m co0) x)) := by
  rw [fDo_5 hk]; exact ac136 t m la lc pa pc ht hm (hq0 hk) hg
section
attribute [local irreducible] OpJ RunL Run RunD DetJ pt own star Rd RdS
theorem ac94 (s : Sk) (la : Option Addr) (lc : Nat) (pa : Option Addr) (pc : Nat) (RL RP : HP) (hn : s.layers.length ≤ 1000000 ∧ s.past.length ≤ 1000000) (hRL : RdS RL la (s.layers.flatMap Ly.c)) (hRP : RdS RP pa (s.past.flatMap Pa.c)) : AC Tryz.prog 147 ⟨[.agg ⟨s.c la lc pa pc⟩]⟩ (stars [RL, RP]) (Outs (fun _ : Option Addr × Nat × Option Addr × Nat => True) (fun x => .agg ⟨s.c x.1 x.2.1 x.2.2.1 x.2.2.2⟩) (fun x => [own 96 4 x.1 (s.layers).length x.2.1 ((s.layers).flatMap Ly.c), own 98 7 x.2.2.1 (s.past).length x.2.2.2 ((s.past).flatMap Pa.c), RL, RP])) := by
 have hnl := hn.1; have hnp := hn.2
 refine eo Tryz.func147 fun β => ?_
 refine sr ?_
 refine obx rfl fun b1 => ?_
 refine oal fun b2 => ?_
 refine kq [1, 2] ?_
 refine sr ?_
 refine RunL.op rfl rfl (OpJ.buildSlice0 S25 fun b3 => ?_)
 refine sx 2 ?_
 refine RunL.op rfl rfl (OpJ.appendL (enc := Ly.c) (R := RL) ([] : List Ly) s.layers S25 M64 rfl rfl pk pk hRL rfl (fun _ => rfl) (by decide) Ly.one (by simp; omega) (by simp; omega) fun a6 c6 => ?_)
 rw [List.nil_append]
 refine sx 2 ?_
 refine kq [1, 2] ?_
 refine sr ?_
 refine RunL.op rfl rfl (OpJ.buildSlice0 S26 fun b8 => ?_)
 refine sx 2 ?_
 refine RunL.op rfl rfl (OpJ.appendL (enc := Pa.c) (R := RP) ([] : List Pa) s.past S26 M66 rfl rfl pk pk hRP rfl (fun _ => rfl) (by decide) Pa.one (by simp; omega) (by simp; omega) fun a11 c11 => ?_)
 rw [List.nil_append]
 refine sx 2 ?_
 refine kq [1, 2] ?_
 refine rg 2 [2] ?_
 exact .ret (ret_out (a6, c6, a11, c11) (.cellA T28 rfl pk (by rfl) .nil) trivial rfl gv)
theorem ac93 (t : Sk) (m : Mv) (la : Option Addr) (lc : Nat) (pa : Option Addr) (pc : Nat) (ht : t.ok 999999) (hm : m.ok) (hq0 : m.kind = 5 → m.qty = 0) (hg : ∀ (i : Nat) (p : Pa), t.past[i]? = some p → 0 ≤ W (p.qty - p.used)) : AC Tryz.prog 146 ⟨[.agg ⟨t.c la lc pa pc⟩, .agg ⟨m.c⟩]⟩ (stars [own 96 4 la (t.layers).length lc ((t.layers).flatMap Ly.c), own 98 7 pa (t.past).length pc ((t.past).flatMap Pa.c)]) (Outs (fun _ : Option Addr × Nat × Option Addr × Nat => True) (fun x => RmV t la lc pa pc (fDo t m co0) x) (fun x => StB 96 98 (fDo t m co0) x)) := by
 have hn : t.layers.length ≤ 1000000 ∧ t.past.length ≤ 1000000 := ⟨Nat.le_trans ht.nl (by decide), Nat.le_trans ht.np (by decide)⟩
 have hnl := ht.nl; have hnp := ht.np
 obtain ⟨hm1, hm2⟩ := hm
 refine eo Tryz.func146 fun β => ?_
 refine sr ?_
 refine obx rfl fun b2 => ?_
 refine obx rfl fun b3 => ?_
 refine oal fun b4 => ?_
 refine oal fun b5 => ?_
 refine sx 1 ?_
 refine kq [2, 3, 4, 5] ?_
 refine Run.seq ?_
 refine rg 2 [2, 3, 4, 5, 10] ?_
 refine Run.block ?_
 refine rg 2 [2, 3, 4, 5, 10, 11] ?_
 refine cnd rfl (fun h1 => ?_) fun h1 => ?_
 refine sr ?_
 refine sx 11 ?_
 refine RunL.op rfl rfl (OpJ.buildSlice1 S25 rfl rfl rfl (by decide) (by decide) Z64 rfl fun b24 => ?_)
 refine RunL.op rfl rfl (OpJ.append1 (⟨m.seq, m.lot, m.qty, m.cost⟩ : Ly) S25 M64 rfl rfl pk pk rfl rfl (by simp [Value.oneCell', Pa.c, Ly.c, Mv.c, Co.c]) rfl (by omega) (by omega) fun a25 c25 => ?_)
 refine sx 2 ?_
 refine kq [2, 3, 4, 5] ?_
 refine sr ?_
 refine sx 11 ?_
 refine RunL.op rfl rfl (OpJ.buildSlice1 S26 rfl rfl rfl (by decide) (by decide) Z66 rfl fun b38 => ?_)
 refine RunL.op rfl rfl (OpJ.append1 (⟨m.seq, 1, m.lot, m.qty, m.cost, 0, 0⟩ : Pa) S26 M66 rfl rfl pk pk rfl rfl (by simp [Value.oneCell', Pa.c, Ly.c, Mv.c, Co.c]) rfl (by omega) (by omega) fun a39 c39 => ?_)
 refine sx 2 ?_
 refine kq [2, 3, 4, 5] ?_
 refine Run.seq ?_
 refine regionD HM ?_
 refine dx [0, 1, 2, 3, 4, 5] ?_
 refine dsw 6 [true, true, true, true, true, false] ?_
 refine dsw 7 [false, false, false, false, false] ?_
 refine dx [8] ?_
 refine kd [4, 5, 6] rfl ?_
 refine Run.ret ?_
 have hk : m.kind = 1 := (by assumption); have hres : fDo t m co0 = .ok ({ t with layers := t.layers ++ [(⟨m.seq, m.lot, m.qty, m.cost⟩ : Ly)], past := t.past ++ [(⟨m.seq, 1, m.lot, m.qty, m.cost, 0, 0⟩ : Pa)] }, ⟨0, m.qty, m.cost, 0⟩) := (by rw [fDo_1 hk]; unfold fRecv; rw [hk]); refine ret_out (a25, c25, a39, c39) (.cellA T28 rfl pk (by rfl) (.cellA T43 rfl pk (by rfl) (.tmp rfl .nil))) trivial (by rw [hres]; simp only [RmV, RmS, Sk.c, List.length_set]; rfl) ?_; rw [hres]; simp only [StB, List.length_set, List.length_append]; exact gv
 refine rg 2 [2, 3, 4, 5, 10, 47] ?_
 refine cnd rfl (fun h2 => ?_) fun h2 => ?_
 refine Run.seq ?_
 refine rg 5 [2, 3, 4, 5, 53] ?_
 refine cnd rfl (fun h3 => ?_) fun h3 => ?_
 refine rg 5 [4, 5, 6] ?_
 refine Run.ret ?_
 have hres : fDo t m co0 = .error 21 := (by rw [fDo_2 (by assumption)]; exact if_pos (by assumption)); refine ret_out (none, 0, none, 0) (.cellA T28 rfl pk (by rfl) (.cellA T43 rfl pk (by rfl) (.tmp rfl .nil))) trivial (by rw [hres]; rfl) ?_; rw [hres]; exact gv
 refine Run.skip ?_
 refine sr ?_
 refine sx 3 ?_
 refine RunL.callX C133 rfl rfl rfl (ac133 t la lc pa _ pc m.qty ht hm1) tks fun ⟨la2, lc2⟩ _ => ?_
 refine sx 3 ?_
 refine oal fun b7 => ?_
 refine sx 2 ?_
 refine kq [3, 4, 5, 7, 8] ?_
 refine sr ?_
 refine sx 10 ?_
 refine RunL.op rfl rfl (OpJ.buildSlice1 S26 rfl rfl rfl (by decide) (by decide) Z66 rfl fun b73 => ?_)
 refine RunL.op rfl rfl (OpJ.append1 (⟨m.seq, 2, m.lot, m.qty, (issueL t.layers m.qty 0).2, 0, 0⟩ : Pa) S26 M66 rfl rfl pk pk rfl rfl (by simp [Value.oneCell', Pa.c, Ly.c, Mv.c, Co.c]) rfl (by omega) (by omega) fun a74 c74 => ?_)
 refine sx 2 ?_
 refine kq [3, 4, 5, 7, 8] ?_
 refine Run.seq ?_
 refine regionD HM ?_
 refine dx [0, 1, 2, 3, 4, 5, 6] ?_
 refine dsw 7 [true, true, true, true, true, true, false] ?_
 refine dsw 8 [false, false, false, false, false, false] ?_
 refine dx [9] ?_
 refine kd [4, 5, 6] rfl ?_
 refine Run.ret ?_
 have hk : m.kind = 2 := (by assumption); have hres : fDo t m co0 = .ok ({ t with layers := (issueL t.layers m.qty 0).1, past := t.past ++ [(⟨m.seq, 2, m.lot, m.qty, (issueL t.layers m.qty 0).2, 0, 0⟩ : Pa)] }, ⟨0, W (0 - m.qty), W (0 - (issueL t.layers m.qty 0).2), 0⟩) := (by rw [fDo_2 hk]; unfold fIssue; rw [if_neg (by assumption), hk]); refine ret_out (la2, lc2, a74, c74) (.cellA T28 rfl pk (by rfl) (.cellA T43 rfl pk (by rfl) (.tmp rfl .nil))) trivial (by rw [hres]; simp only [RmV, RmS, Sk.c, List.length_set]; rfl) ?_; rw [hres]; simp only [StB, List.length_set, List.length_append]; exact gv
 refine rg 2 [2, 3, 4, 5, 10, 83] ?_
 refine cnd rfl (fun h4 => ?_) fun h4 => ?_
 refine sr ?_
 refine sx 2 ?_
 refine RunL.callX C134 rfl rfl rfl (acr3 t m la lc pa pc ht ⟨hm1, hm2⟩ (by assumption) hq0 hg) tks fun x _ => ?_
 rcases hres : fDo t m co0 with e | ⟨t2, c2⟩
 refine sx 3 ?_
 refine RunL.op rfl rfl (OpJ.storeW T28 rfl rfl RmS_len rfl RmS_one up ?_)
 refine sx 2 ?_
 refine kq [4, 5, 6] ?_
 refine Run.ret ?_
 refine ret_out x (.cellA T28 rfl pk (by rfl) (.cellA T43 rfl pk (by rfl) (.tmp rfl .nil))) trivial rfl ?_; exact gv
 refine sx 3 ?_
 refine RunL.op rfl rfl (OpJ.storeW T28 rfl rfl RmS_len rfl RmS_one up ?_)
 refine sx 2 ?_
 refine kq [4, 5, 6] ?_
 refine Run.ret ?_
 refine ret_out x (.cellA T28 rfl pk (by rfl) (.cellA T43 rfl pk (by rfl) (.tmp rfl .nil))) trivial rfl ?_; exact gv
 refine rg 2 [2, 3, 4, 5, 10, 91] ?_
 refine cnd rfl (fun h5 => ?_) fun h5 => ?_
 refine sr ?_
 refine sx 2 ?_
 refine RunL.callX C135 rfl rfl rfl (acr4 t m la lc pa pc ht ⟨hm1, hm2⟩ (by assumption) hq0 hg) tks fun x _ => ?_
 rcases hres : fDo t m co0 with e | ⟨t2, c2⟩
 refine sx 3 ?_
 refine RunL.op rfl rfl (OpJ.storeW T28 rfl rfl RmS_len rfl RmS_one up ?_)
 refine sx 2 ?_
 refine kq [4, 5, 6] ?_
 refine Run.ret ?_
 refine ret_out x (.cellA T28 rfl pk (by rfl) (.cellA T43 rfl pk (by rfl) (.tmp rfl .nil))) trivial rfl ?_; exact gv
 refine sx 3 ?_
 refine RunL.op rfl rfl (OpJ.storeW T28 rfl rfl RmS_len rfl RmS_one up ?_)
 refine sx 2 ?_
 refine kq [4, 5, 6] ?_
 refine Run.ret ?_
 refine ret_out x (.cellA T28 rfl pk (by rfl) (.cellA T43 rfl pk (by rfl) (.tmp rfl .nil))) trivial rfl ?_; exact gv
 refine rg 2 [2, 3, 4, 5, 99] ?_
 refine cnd rfl (fun h6 => ?_) fun h6 => ?_
 refine sr ?_
 refine sx 2 ?_
 refine RunL.callX C136 rfl rfl rfl (acr5 t m la lc pa pc ht ⟨hm1, hm2⟩ (by assumption) hq0 hg) tks fun x _ => ?_
 rcases hres : fDo t m co0 with e | ⟨t2, c2⟩
 refine sx 3 ?_
 refine RunL.op rfl rfl (OpJ.storeW T28 rfl rfl RmS_len rfl RmS_one up ?_)
 refine sx 2 ?_
 refine kq [4, 5, 6] ?_
 refine Run.ret ?_
 refine ret_out x (.cellA T28 rfl pk (by rfl) (.cellA T43 rfl pk (by rfl) (.tmp rfl .nil))) trivial rfl ?_; exact gv
 refine sx 3 ?_
 refine RunL.op rfl rfl (OpJ.storeW T28 rfl rfl RmS_len rfl RmS_one up ?_)
 refine sx 2 ?_
 refine kq [4, 5, 6] ?_
 refine Run.ret ?_
 refine ret_out x (.cellA T28 rfl pk (by rfl) (.cellA T43 rfl pk (by rfl) (.tmp rfl .nil))) trivial rfl ?_; exact gv
 refine Run.skip ?_
 refine rg 5 [4, 5, 6] ?_
 refine Run.ret ?_
 have hres := fDo_0 (t := t) (m := m) (c := co0) (by refine ⟨?_, ?_, ?_, ?_, ?_⟩ <;> assumption); refine ret_out (none, 0, none, 0) (.cellA T28 rfl pk (by rfl) (.cellA T43 rfl pk (by rfl) (.tmp rfl .nil))) trivial (by rw [hres]; rfl) ?_; rw [hres]; exact gv
end
end Go.Proofs.YtcpghpifbgpkjaaGreatDoor

namespace Go.Proofs.YtcpghpifbgpkjaaGreatDoor
open Go Go.SL Go.Proofs
theorem ac93f (t : Sk) (m : Mv) (la : Option Addr) (lc : Nat) (pa : Option Addr) (pc : Nat) (ht : t.ok 999999) (hm : m.ok) (hq0 : m.kind = 5 → m.qty = 0) (hg : ∀ (i : Nat) (p : Pa), t.past[i]? = some p → 0 ≤ W (p.qty - p.used)) : AC Tryz.prog 146 ⟨[.agg ⟨t.c la lc pa pc⟩, .agg ⟨m.c⟩]⟩ (stars [own 96 4 la (t.layers).length lc ((t.layers).flatMap Ly.c), own 98 7 pa (t.past).length pc ((t.past).flatMap Pa.c)]) (Outs (fun _ : Option Addr × Nat × Option Addr × Nat => True) (fun x => RmV t la lc pa pc (fDo t m co0) x) (fun x => [stars (StB 96 98 (fDo t m co0) x)])) := by
  refine AC.mono (ac93 t m la lc pa pc ht hm hq0 hg) (fun _ h => h) ?_
  rintro r h ⟨x, ⟨_, hr⟩, hh⟩
  exact ⟨x, ⟨trivial, hr⟩, stars_un (As := StB 96 98 _ x) (M := []) (by rw [List.append_nil]; exact hh)⟩
section
attribute [local irreducible] OpJ RunL Run RunD DetJ pt own star Rd RdS
theorem ac54 (s : Sk) (m : Mv) (la : Option Addr) (lc : Nat) (pa : Option Addr) (pc : Nat) (RL RP : HP) (hs : s.ok 999999) (hm : m.ok) (hRL : RdS RL la (s.layers.flatMap Ly.c)) (hRP : RdS RP pa (s.past.flatMap Pa.c)) (hsz : (m.item.size : Int) ≤ 9223372036854775807 ∧ (m.lot.size : Int) ≤ 9223372036854775807) (hf0 : s.fine) : AC Tryz.prog 113 ⟨[.agg ⟨s.c la lc pa pc⟩, .agg ⟨m.c⟩]⟩ (stars [RL, RP]) (Outs (fun _ : Option Addr × Nat × Option Addr × Nat => True) (fun x => StV (fStep s m) x) (fun x => StB 96 98 (fStep s m) x ++ [RL, RP])) := by
 have hn : s.layers.length ≤ 1000000 ∧ s.past.length ≤ 1000000 := ⟨Nat.le_trans hs.nl (by decide), Nat.le_trans hs.np (by decide)⟩
 have hnl := hn.1; have hnp := hn.2
 refine eo Tryz.func113 fun β => ?_
 refine sr ?_
 refine obx rfl fun b2 => ?_
 refine obx rfl fun b3 => ?_
 refine oal fun b4 => ?_
 refine oal fun b5 => ?_
 refine sx 1 ?_
 refine kq [2, 3, 4, 5] ?_
 refine Run.seq ?_
 refine sr ?_
 refine sx 1 ?_
 refine RunL.call C91 rfl rfl rfl (ac91 m hsz.1 hsz.2) .nil ?_
 refine sx 1 ?_
 refine kq [2, 3, 4, 5, 7] ?_
 refine rg 2 [2, 3, 4, 5, 7, 14] ?_
 refine cnd rfl (fun h1 => ?_) fun h1 => ?_
 refine rg 6 [4, 5, 6] ?_
 refine Run.ret ?_
 have hres2 : fStep s m = .error m.one := (by unfold fStep; rw [if_pos h1]); refine ret_out (none, 0, none, 0) (.cellA T28 rfl pk (by rfl) (.cellA T43 rfl pk (by rfl) (.tmp rfl .nil))) trivial (by rw [hres2]; rfl) ?_; rw [hres2]; exact gv
 refine Run.skip ?_
 refine Run.seq ?_
 refine sr ?_
 refine sx 3 ?_
 refine RunL.call C92 rfl rfl rfl (ac92 s la lc pa pc RP m.seq hRP hnp) tks ?_
 rw [known_eq hf0]
 refine kq [2, 3, 4, 5, 21] ?_
 refine cnd rfl (fun h2 => ?_) fun h2 => ?_
 refine rg 5 [4, 5, 6] ?_
 refine Run.ret ?_
 have hres2 : fStep s m = .error 8 := (by unfold fStep; rw [if_neg h1, if_pos (by assumption)]); refine ret_out (none, 0, none, 0) (.cellA T28 rfl pk (by rfl) (.cellA T43 rfl pk (by rfl) (.tmp rfl .nil))) trivial (by rw [hres2]; rfl) ?_; rw [hres2]; exact gv
 refine Run.skip ?_
 refine Run.seq ?_
 refine regionD HM ?_
 refine RunD.mono (K' := fun E' L' => ∃ la2 : Option Addr, ∃ lc2 : Nat, ∃ pa2 : Option Addr, ∃ pc2 : Nat, ∃ x : Option Addr × Nat × Option Addr × Nat, ∃ b8 : Nat, ∃ b9 : Nat, E' = [(3, .pointer (some ⟨b3, 0, none⟩)), (4, .pointer (some ⟨b4, 0, none⟩)), (5, .pointer (some ⟨b5, 0, none⟩)), (8, .pointer (some ⟨b8, 0, none⟩)), (9, .pointer (some ⟨b9, 0, none⟩)), (10, I (errOf (fDo s m co0)))] ∧ L' = [pt b8 (blk (RmS s la2 lc2 pa2 pc2 (fDo s m co0) x) 61), pt b9 (blk (avC (fDo s m co0)).c 32), stars (StB 96 98 (fDo s m co0) x), pt b3 (blk m.c 35), pt b4 (blk [I 0, I 0, I 0, .slice none 0 0, .slice none 0 0] 61), pt b5 (blk [I 0, I 0, I 0, I 0] 32), RL, RP]) ?_ ?_
 refine dx [0, 2] ?_
 refine RunD.three 1 8 9 [true, false] [true, true] [true, true] rfl rfl rfl rfl rfl rfl rfl rfl rfl kr kr kr kr (OpJ.callOuts C94 rfl rfl (ac94 s la lc pa pc RL RP hn hRL hRP) tks fun ⟨la2, lc2, pa2, pc2⟩ _ => ⟨po, ?_⟩) (OpJ.alloc Z28 fun b8 => ⟨po, ?_⟩) (OpJ.alloc Z43 fun b9 => ⟨po, ?_⟩)
 refine RunD.three 3 8 9 [false] [true] [true] rfl rfl rfl rfl rfl rfl rfl rfl rfl kr kr kr kr (OpJ.callOuts C93 rfl rfl (ac93f s m la2 lc2 pa2 pc2 hs hm (fun hk => (MG.of (Decidable.not_not.1 h1)).q.1 (.inl hk)) (fun i p hx => (hf0 i p hx).2)) tks fun x _ => ⟨po, ?_⟩) (OpJ.alloc Z28 fun b8 => ⟨po, ?_⟩) (OpJ.alloc Z43 fun b9 => ⟨po, ?_⟩)
 refine dx [4, 5, 6, 7] ?_
 refine RunD.two 8 9 [true, true, true, true] [true, true, true, true] rfl rfl rfl rfl rfl rfl kr kr kr (OpJ.alloc Z28 fun b8 => ⟨po, ?_⟩) (OpJ.alloc Z43 fun b9 => ⟨po, ?_⟩)
 refine RunD.op 9 [true, true, true, true] rfl rfl rfl kr kr (OpJ.alloc Z43 fun b9 => ⟨po, ?_⟩)
 refine RunD.op 10 [true, true, false, false] rfl rfl rfl kr kr (OpJ.storeW T28 rfl rfl RmS_len rfl RmS_one up ⟨po, ?_⟩)
 refine dsw 11 [true, false] ?_
 refine dx [12] ?_
 exact dwk ⟨_, _, _, _, _, _, _, rfl, rfl⟩ rfl gv
 refine RunD.op 8 [true, true, true, true] rfl rfl rfl kr kr (OpJ.alloc Z28 fun b8 => ⟨po, ?_⟩)
 refine RunD.op 10 [true, true, false, false] rfl rfl rfl kr kr (OpJ.storeW T28 rfl rfl RmS_len rfl RmS_one up ⟨po, ?_⟩)
 refine dsw 11 [true, false] ?_
 refine dx [12] ?_
 exact dwk ⟨_, _, _, _, _, _, _, rfl, rfl⟩ rfl gv
 refine RunD.two 3 9 [false] [true] rfl rfl rfl rfl rfl rfl kr kr kr (OpJ.callOuts C93 rfl rfl (ac93f s m la2 lc2 pa2 pc2 hs hm (fun hk => (MG.of (Decidable.not_not.1 h1)).q.1 (.inl hk)) (fun i p hx => (hf0 i p hx).2)) tks fun x _ => ⟨po, ?_⟩) (OpJ.alloc Z43 fun b9 => ⟨po, ?_⟩)
 refine dx [4, 5, 6, 7] ?_
 refine RunD.op 9 [true, true, true, true] rfl rfl rfl kr kr (OpJ.alloc Z43 fun b9 => ⟨po, ?_⟩)
 refine RunD.op 10 [true, true, false, false] rfl rfl rfl kr kr (OpJ.storeW T28 rfl rfl RmS_len rfl RmS_one up ⟨po, ?_⟩)
 refine dsw 11 [true, false] ?_
 refine dx [12] ?_
 exact dwk ⟨_, _, _, _, _, _, _, rfl, rfl⟩ rfl gv
 refine RunD.op 3 [false] rfl rfl rfl kr kr (OpJ.callOuts C93 rfl rfl (ac93f s m la2 lc2 pa2 pc2 hs hm (fun hk => (MG.of (Decidable.not_not.1 h1)).q.1 (.inl hk)) (fun i p hx => (hf0 i p hx).2)) tks fun x _ => ⟨po, ?_⟩)
 refine dx [4, 5, 6, 7] ?_
 refine RunD.op 10 [true, true, false, false] rfl rfl rfl kr kr (OpJ.storeW T28 rfl rfl RmS_len rfl RmS_one up ⟨po, ?_⟩)
 refine dsw 11 [true, false] ?_
 refine dx [12] ?_
 exact dwk ⟨_, _, _, _, _, _, _, rfl, rfl⟩ rfl gv
 refine RunD.two 3 8 [false] [true] rfl rfl rfl rfl rfl rfl kr kr kr (OpJ.callOuts C93 rfl rfl (ac93f s m la2 lc2 pa2 pc2 hs hm (fun hk => (MG.of (Decidable.not_not.1 h1)).q.1 (.inl hk)) (fun i p hx => (hf0 i p hx).2)) tks fun x _ => ⟨po, ?_⟩) (OpJ.alloc Z28 fun b8 => ⟨po, ?_⟩)
 refine dx [4, 5, 6, 7] ?_
 refine RunD.op 8 [true, true, true, true] rfl rfl rfl kr kr (OpJ.alloc Z28 fun b8 => ⟨po, ?_⟩)
 refine RunD.op 10 [true, true, false, false] rfl rfl rfl kr kr (OpJ.storeW T28 rfl rfl RmS_len rfl RmS_one up ⟨po, ?_⟩)
 refine dsw 11 [true, false] ?_
 refine dx [12] ?_
 exact dwk ⟨_, _, _, _, _, _, _, rfl, rfl⟩ rfl gv
 refine RunD.op 3 [false] rfl rfl rfl kr kr (OpJ.callOuts C93 rfl rfl (ac93f s m la2 lc2 pa2 pc2 hs hm (fun hk => (MG.of (Decidable.not_not.1 h1)).q.1 (.inl hk)) (fun i p hx => (hf0 i p hx).2)) tks fun x _ => ⟨po, ?_⟩)
 refine dx [4, 5, 6, 7] ?_
 refine RunD.op 10 [true, true, false, false] rfl rfl rfl kr kr (OpJ.storeW T28 rfl rfl RmS_len rfl RmS_one up ⟨po, ?_⟩)
 refine dsw 11 [true, false] ?_
 refine dx [12] ?_
 exact dwk ⟨_, _, _, _, _, _, _, rfl, rfl⟩ rfl gv
 refine RunD.two 1 9 [true, false] [true, true] rfl rfl rfl rfl rfl rfl kr kr kr (OpJ.callOuts C94 rfl rfl (ac94 s la lc pa pc RL RP hn hRL hRP) tks fun ⟨la2, lc2, pa2, pc2⟩ _ => ⟨po, ?_⟩) (OpJ.alloc Z43 fun b9 => ⟨po, ?_⟩)
 refine RunD.two 3 9 [false] [true] rfl rfl rfl rfl rfl rfl kr kr kr (OpJ.callOuts C93 rfl rfl (ac93f s m la2 lc2 pa2 pc2 hs hm (fun hk => (MG.of (Decidable.not_not.1 h1)).q.1 (.inl hk)) (fun i p hx => (hf0 i p hx).2)) tks fun x _ => ⟨po, ?_⟩) (OpJ.alloc Z43 fun b9 => ⟨po, ?_⟩)
 refine dx [4, 5, 6, 7] ?_
 refine RunD.op 9 [true, true, true, true] rfl rfl rfl kr kr (OpJ.alloc Z43 fun b9 => ⟨po, ?_⟩)
 refine RunD.op 10 [true, true, false, false] rfl rfl rfl kr kr (OpJ.storeW T28 rfl rfl RmS_len rfl RmS_one up ⟨po, ?_⟩)
 refine dsw 11 [true, false] ?_
 refine dx [12] ?_
 exact dwk ⟨_, _, _, _, _, _, _, rfl, rfl⟩ rfl gv
 refine RunD.op 3 [false] rfl rfl rfl kr kr (OpJ.callOuts C93 rfl rfl (ac93f s m la2 lc2 pa2 pc2 hs hm (fun hk => (MG.of (Decidable.not_not.1 h1)).q.1 (.inl hk)) (fun i p hx => (hf0 i p hx).2)) tks fun x _ => ⟨po, ?_⟩)
 refine dx [4, 5, 6, 7] ?_
 refine RunD.op 10 [true, true, false, false] rfl rfl rfl kr kr (OpJ.storeW T28 rfl rfl RmS_len rfl RmS_one up ⟨po, ?_⟩)
 refine dsw 11 [true, false] ?_
 refine dx [12] ?_
 exact dwk ⟨_, _, _, _, _, _, _, rfl, rfl⟩ rfl gv
 refine RunD.op 1 [true, false] rfl rfl rfl kr kr (OpJ.callOuts C94 rfl rfl (ac94 s la lc pa pc RL RP hn hRL hRP) tks fun ⟨la2, lc2, pa2, pc2⟩ _ => ⟨po, ?_⟩)
 refine RunD.op 3 [false] rfl rfl rfl kr kr (OpJ.callOuts C93 rfl rfl (ac93f s m la2 lc2 pa2 pc2 hs hm (fun hk => (MG.of (Decidable.not_not.1 h1)).q.1 (.inl hk)) (fun i p hx => (hf0 i p hx).2)) tks fun x _ => ⟨po, ?_⟩)
 refine dx [4, 5, 6, 7] ?_
 refine RunD.op 10 [true, true, false, false] rfl rfl rfl kr kr (OpJ.storeW T28 rfl rfl RmS_len rfl RmS_one up ⟨po, ?_⟩)
 refine dsw 11 [true, false] ?_
 refine dx [12] ?_
 exact dwk ⟨_, _, _, _, _, _, _, rfl, rfl⟩ rfl gv
 refine RunD.two 1 8 [true, false] [true, true] rfl rfl rfl rfl rfl rfl kr kr kr (OpJ.callOuts C94 rfl rfl (ac94 s la lc pa pc RL RP hn hRL hRP) tks fun ⟨la2, lc2, pa2, pc2⟩ _ => ⟨po, ?_⟩) (OpJ.alloc Z28 fun b8 => ⟨po, ?_⟩)
 refine RunD.two 3 8 [false] [true] rfl rfl rfl rfl rfl rfl kr kr kr (OpJ.callOuts C93 rfl rfl (ac93f s m la2 lc2 pa2 pc2 hs hm (fun hk => (MG.of (Decidable.not_not.1 h1)).q.1 (.inl hk)) (fun i p hx => (hf0 i p hx).2)) tks fun x _ => ⟨po, ?_⟩) (OpJ.alloc Z28 fun b8 => ⟨po, ?_⟩)
 refine dx [4, 5, 6, 7] ?_
 refine RunD.op 8 [true, true, true, true] rfl rfl rfl kr kr (OpJ.alloc Z28 fun b8 => ⟨po, ?_⟩)
 refine RunD.op 10 [true, true, false, false] rfl rfl rfl kr kr (OpJ.storeW T28 rfl rfl RmS_len rfl RmS_one up ⟨po, ?_⟩)
 refine dsw 11 [true, false] ?_
 refine dx [12] ?_
 exact dwk ⟨_, _, _, _, _, _, _, rfl, rfl⟩ rfl gv
 refine RunD.op 3 [false] rfl rfl rfl kr kr (OpJ.callOuts C93 rfl rfl (ac93f s m la2 lc2 pa2 pc2 hs hm (fun hk => (MG.of (Decidable.not_not.1 h1)).q.1 (.inl hk)) (fun i p hx => (hf0 i p hx).2)) tks fun x _ => ⟨po, ?_⟩)
 refine dx [4, 5, 6, 7] ?_
 refine RunD.op 10 [true, true, false, false] rfl rfl rfl kr kr (OpJ.storeW T28 rfl rfl RmS_len rfl RmS_one up ⟨po, ?_⟩)
 refine dsw 11 [true, false] ?_
 refine dx [12] ?_
 exact dwk ⟨_, _, _, _, _, _, _, rfl, rfl⟩ rfl gv
 refine RunD.op 1 [true, false] rfl rfl rfl kr kr (OpJ.callOuts C94 rfl rfl (ac94 s la lc pa pc RL RP hn hRL hRP) tks fun ⟨la2, lc2, pa2, pc2⟩ _ => ⟨po, ?_⟩)
 refine RunD.op 3 [false] rfl rfl rfl kr kr (OpJ.callOuts C93 rfl rfl (ac93f s m la2 lc2 pa2 pc2 hs hm (fun hk => (MG.of (Decidable.not_not.1 h1)).q.1 (.inl hk)) (fun i p hx => (hf0 i p hx).2)) tks fun x _ => ⟨po, ?_⟩)
 refine dx [4, 5, 6, 7] ?_
 refine RunD.op 10 [true, true, false, false] rfl rfl rfl kr kr (OpJ.storeW T28 rfl rfl RmS_len rfl RmS_one up ⟨po, ?_⟩)
 refine dsw 11 [true, false] ?_
 refine dx [12] ?_
 exact dwk ⟨_, _, _, _, _, _, _, rfl, rfl⟩ rfl gv
 rintro _ _ ⟨la2, lc2, pa2, pc2, x, b8, b9, rfl, rfl⟩
 refine Run.seq ?_
 refine sr ?_
 refine sx 1 ?_
 rcases hres : fDo s m co0 with e | ⟨t, c⟩
 refine sx 1 ?_
 first | refine RunL.set (congrArg Value.bool (decide_eq_true (show errOf (Except.error _) ≠ 0 from fDo_err hres))) ?_ | skip
 refine kq [3, 4, 5, 8, 9, 10, 33] ?_
 refine Run.true rfl ?_
 refine rg 6 [4, 5, 6] ?_
 refine Run.ret ?_
 have hres2 : fStep s m = .error e := (by unfold fStep; rw [if_neg h1, if_neg (by simp_all), fDo_seq, hres]); refine ret_out (none, 0, none, 0) (.cellA T28 rfl pk (by rfl) (.cellA T43 rfl pk (by rfl) (.tmp rfl .nil))) trivial (by rw [hres2]; rfl) ?_; rw [hres2]; exact gv
 have hto := fDo_ok hs hm hres
 have hnt : (summed t c).layers.length ≤ 1000000 := hto.nl
 refine RunL.unstar (As := StB 96 98 (Except.ok (t, c)) x) pk ?_
 rw [show RmS s la2 lc2 pa2 pc2 (Except.ok (t, c)) x = t.c x.1 x.2.1 x.2.2.1 x.2.2.2 from rfl, show avC (Except.ok (t, c)) = c from rfl]
 refine sx 1 ?_
 first | refine RunL.set (congrArg Value.bool (decide_eq_true (show errOf (Except.error _) ≠ 0 from fDo_err hres))) ?_ | skip
 refine kq [3, 4, 5, 8, 9, 10, 33] ?_
 refine Run.false rfl ?_
 refine Run.skip ?_
 refine sr ?_
 refine sx 4 ?_
 refine RunL.op rfl rfl (OpJ.add rfl rfl ?_)
 refine sx 2 ?_
 refine kq [3, 4, 5, 8, 9] ?_
 refine sr ?_
 refine sx 4 ?_
 refine RunL.op rfl rfl (OpJ.add rfl rfl ?_)
 refine sx 2 ?_
 refine kq [3, 4, 5, 8, 9] ?_
 refine Run.seq ?_
 refine sr ?_
 refine sx 3 ?_
 refine RunL.call C95 rfl rfl rfl (ac95 (summed t c) x.1 x.2.1 x.2.2.1 x.2.2.2 (own 96 4 x.1 (t.layers).length x.2.1 ((t.layers).flatMap Ly.c)) c.var own.rds hnt) tks ?_
 rw [fits_over]
 refine RunL.op rfl rfl (OpJ.not rfl ?_)
 refine kq [3, 4, 5, 8, 9, 53] ?_
 refine cnd rfl (fun h3 => ?_) fun h3 => ?_
 refine rg 5 [4, 5, 6] ?_
 refine Run.ret ?_
 have hres2 : fStep s m = .error 4 := (by unfold fStep; rw [if_neg h1, if_neg (by simp_all), fDo_seq, hres]; exact if_pos (show overB (summed t c) c = true from by simpa using h3)); refine ret_out (none, 0, none, 0) (.cellA T28 rfl pk (by rfl) (.cellA T43 rfl pk (by rfl) (.tmp rfl .nil))) trivial (by rw [hres2]; rfl) ?_; rw [hres2]; exact gv
 refine Run.skip ?_
 refine sr ?_
 refine sx 3 ?_
 refine RunL.op rfl rfl (OpJ.store1 T3 rfl rfl rfl up (by show 0 < 4; decide) ?_)
 refine kq [4, 5, 8, 9] ?_
 refine Run.seq ?_
 refine regionD HM ?_
 refine dx [0, 1] ?_
 refine dsw 2 [true, false] ?_
 refine dsw 3 [false] ?_
 refine dx [4] ?_
 refine kd [4, 5, 6] rfl ?_
 refine Run.ret ?_
 have hres2 : fStep s m = .ok (summed t { c with seq := m.seq }, { c with seq := m.seq }) := (by unfold fStep; rw [if_neg h1, if_neg (by simp_all), fDo_seq, hres]; exact if_neg (show ¬ overB (summed t c) c = true from by simpa using h3)); refine ret_out x (.cellA T28 rfl pk (by rfl) (.cellA T43 rfl pk (by rfl) (.tmp rfl .nil))) trivial (by rw [hres2]; rfl) ?_; rw [hres2]; exact gv
theorem ac96 (s : Sk) (la : Option Addr) (lc : Nat) (pa : Option Addr) (pc : Nat) (RP : HP) (kind seq : Int) (hRP : RdS RP pa (s.past.flatMap Pa.c)) (hnp : s.past.length ≤ 1000000) : AC Tryz.prog 149 ⟨[.agg ⟨s.c la lc pa pc⟩, I kind, I seq]⟩ (stars [RP]) (Ret (I (idxOf (findI (isPast kind seq) s.past))) [RP]) := by
 refine eo Tryz.func149 fun β => ?_
 refine sr ?_
 refine obx rfl fun b3 => ?_
 refine sx 1 ?_
 refine kq [1, 2, 3] ?_
 refine Run.seq ?_
 refine rg 1 [1, 2, 3, 7] ?_
 refine Run.block ?_
 refine Run.loop (fun mm E L => ∃ i : Nat, mm = s.past.length - i ∧ i ≤ s.past.length ∧ (∀ j y, j < i → s.past[j]? = some y → isPast kind seq y = false) ∧ E = [(1, I kind), (2, I seq), (3, .pointer (some ⟨b3, 0, none⟩)), (7, I i)] ∧ L = [pt b3 (blk (s.c la lc pa pc) 61), RP]) ⟨_, 0, rfl, Nat.zero_le _, fun _ _ h => by omega, rfl, rfl⟩ ?_
 rintro _ _ _ ⟨i, rfl, hi, hI0, rfl, rfl⟩
 refine Run.seq ?_
 refine rg 5 [1, 2, 3, 7, 12] ?_
 refine cnd rfl (fun h1 => ?_) fun h1 => ?_
 refine Run.skip ?_
 refine Run.seq ?_
 refine Run.block ?_
 refine sr ?_
 obtain ⟨x, hx⟩ := get_ex (xs := s.past) (by omega)
 refine RunL.rdOpen pk hRP (flat_ne (k := 7) (fun _ => rfl) (by decide) hx) fun b o e hrd => ?_
 subst e
 refine sx 5 ?_
 refine RunL.op rfl rfl (OpJ.load1 T3 rfl pk (hrd.pa hx 0 (I x.seq) rfl) ?_)
 refine sx 3 ?_
 refine spl 23 rfl (fun g2 => ?_) fun g2 => ?_
 refine sx 3 ?_
 refine spl 26 rfl (fun g3 => ?_) fun g3 => ?_
 refine sx 10 ?_
 refine kq [1, 2, 3, 7, 36] ?_
 refine Run.true rfl ?_
 refine rg 2 [6] ?_
 refine Run.ret ?_
 exact ret_one (.tmp rfl .nil) (congrArg I (by rw [findI_at hx (by unfold isPast; simp_all) hI0]; rfl)) gv
 refine sx 5 ?_
 refine RunL.yes rfl rfl rfl rfl (OpJ.load1 T3 rfl pk (hrd.pa hx 1 (I x.kind) rfl) ?_)
 refine sx 4 ?_
 refine kq [1, 2, 3, 7, 36] ?_
 refine cnd rfl (fun h4 => ?_) fun h4 => ?_
 refine rg 2 [6] ?_
 refine Run.ret ?_
 exact ret_one (.tmp rfl .nil) (congrArg I (by rw [findI_at hx (by unfold isPast; simp_all) hI0]; rfl)) gv
 refine Run.skip ?_
 refine Run.region ?_
 refine sx 3 ?_
 exact RunL.next (Keep.sub (kt (ks := [1, 2, 3, 7]) rfl)) _ ⟨_, by omega, i + 1, rfl, by omega, notYet hx (by unfold isPast; simp_all) hI0, rfl, rfl⟩ gv
 refine sx 13 ?_
 refine kq [1, 2, 3, 7, 36] ?_
 refine Run.false rfl ?_
 refine Run.skip ?_
 refine Run.region ?_
 refine sx 3 ?_
 exact RunL.next (Keep.sub (kt (ks := [1, 2, 3, 7]) rfl)) _ ⟨_, by omega, i + 1, rfl, by omega, notYet hx (by unfold isPast; simp_all) hI0, rfl, rfl⟩ gv
 refine Run.exit ?_
 refine rg 1 [6] ?_
 refine Run.ret ?_
 exact ret_one (.tmp rfl .nil) (congrArg I (by rw [findI_none (fun j y hj => hI0 j y (by omega))]; rfl)) gv
theorem ac137 (t : Sk) (m : Mv) (la : Option Addr) (nl lc : Nat) (pa : Option Addr) (np pc : Nat) (hv : i64 t.value) (hm : i64 m.qty) (hq : i64 t.qty) : AC Tryz.prog 181 ⟨[.agg ⟨SC t la nl lc pa np pc⟩, .agg ⟨m.c⟩]⟩ (stars []) (Ret (.tuple ⟨[I (takenV t m), I (takenE t m)]⟩) []) := by
 refine eo Tryz.func181 fun β => ?_
 refine sr ?_
 refine obx rfl fun b2 => ?_
 refine obx rfl fun b3 => ?_
 refine sx 2 ?_
 refine kq [2, 3] ?_
 refine Run.seq ?_
 refine rg 5 [2, 3, 10] ?_
 refine cnd rfl (fun h1 => ?_) fun h1 => ?_
 refine rg 2 [4, 5] ?_
 refine Run.ret ?_
 exact ret_one (.tmp rfl (.tmp rfl .nil)) (by first | (simp [tup, takenV, takenE, avgV, *]; done) | (exfalso; omega)) .nil
 refine Run.skip ?_
 refine sr ?_
 refine sx 6 ?_
 refine RunL.call C139 rfl rfl rfl (ac139 _ _ _ hv hm hq) .nil ?_
 refine sx 2 ?_
 refine kq [4, 5] ?_
 refine Run.ret ?_
 exact ret_one (.tmp rfl (.tmp rfl .nil)) (by first | (simp [tup, takenV, takenE, avgV, *]; done) | (exfalso; omega)) .nil
theorem ac138 (s : Sk) (la : Option Addr) (lc : Nat) (pa : Option Addr) (pc : Nat) (RP : HP) (m : Mv) (hRP : RdS RP pa (s.past.flatMap Pa.c)) (hnp : s.past.length ≤ 1000000) : AC Tryz.prog 182 ⟨[.agg ⟨s.c la lc pa pc⟩, .agg ⟨m.c⟩]⟩ (stars [RP]) (Ret (.tuple ⟨[I (okIdx1 (refd (if m.kind = 3 then 2 else 1) m s.past)), I (errOf (refd (if m.kind = 3 then 2 else 1) m s.past))]⟩) [RP]) := by
 refine eo Tryz.func182 fun β => ?_
 refine sr ?_
 refine obx rfl fun b2 => ?_
 refine obx rfl fun b3 => ?_
 refine sx 2 ?_
 refine kq [2, 3] ?_
 refine rg 1 [2, 3, 6] ?_
 refine Run.seq ?_
 refine rg 3 [2, 3, 6, 10] ?_
 refine cnd rfl (fun h1 => ?_) fun h1 => ?_
 refine Run.region ?_
 refine sx 1 ?_
 refine kq [2, 3, 6] ?_
 refine sr ?_
 refine sx 4 ?_
 refine RunL.call C96 rfl rfl rfl (ac96 s la lc pa pc RP _ m.ref hRP hnp) tks ?_
 refine sx 1 ?_
 refine kq [2, 3, 7] ?_
 refine Run.seq ?_
 refine sr ?_
 refine sx 2 ?_
 rcases hf : findI (isPast 2 m.ref) s.past with _ | ⟨i, x⟩
 refine kq [2, 3, 7, 17] ?_
 refine Run.true rfl ?_
 refine rg 2 [4, 5] ?_
 exact .ret (ret_one (.tmp rfl (.tmp rfl .nil)) (by simp [tup, refd, hf, okIdx1, errOf, idxOf, *]) gv)
 obtain ⟨hx, _⟩ := findI_some hf
 have hi := (List.getElem?_eq_some_iff.1 hx).1
 simp only [idxOf]
 refine sF (show ¬ ((i : Int) < 0) by omega) ?_
 refine kq [2, 3, 7, 17] ?_
 refine Run.false rfl ?_
 refine Run.skip ?_
 refine Run.seq ?_
 refine Run.seq ?_
 refine regionD HM ?_
 refine RunD.rdOpen pk hRP (flat_ne (k := 7) (fun _ => rfl) (by decide) hx) fun b o e hrd => ?_
 subst e
 refine dx [0, 1, 2, 3, 4, 5, 6] ?_
 refine RunD.takeR1 7 rfl rfl kr T3 rfl pk (hrd.pa hx 3 (I x.qty) rfl) ?_
 refine dx [8, 9, 10, 11, 12] ?_
 refine RunD.takeR1 13 rfl rfl kr T3 rfl pk (hrd.pa hx 5 (I x.used) rfl) ?_
 refine tk 14 rfl rfl rfl (DetJ.sub rfl rfl) ?_
 refine dx [15] ?_
 refine kd [7, 33] rfl ?_
 refine cnd rfl (fun h2 => ?_) fun h2 => ?_
 refine rg 2 [4, 5] ?_
 exact .ret (ret_one (.tmp rfl (.tmp rfl .nil)) (by simp [tup, refd, hf, okIdx1, errOf, idxOf, *]) gv)
 refine Run.skip ?_
 refine rg 3 [4, 5] ?_
 exact .ret (ret_one (.tmp rfl (.tmp rfl .nil)) (by simp [tup, refd, hf, okIdx1, errOf, idxOf, *]) gv)
 refine Run.skip ?_
 refine sr ?_
 refine sx 4 ?_
 refine RunL.call C96 rfl rfl rfl (ac96 s la lc pa pc RP _ m.ref hRP hnp) tks ?_
 refine sx 1 ?_
 refine kq [2, 3, 7] ?_
 refine Run.seq ?_
 refine sr ?_
 refine sx 2 ?_
 rcases hf : findI (isPast 1 m.ref) s.past with _ | ⟨i, x⟩
 refine kq [2, 3, 7, 17] ?_
 refine Run.true rfl ?_
 refine rg 2 [4, 5] ?_
 exact .ret (ret_one (.tmp rfl (.tmp rfl .nil)) (by simp [tup, refd, hf, okIdx1, errOf, idxOf, *]) gv)
 obtain ⟨hx, _⟩ := findI_some hf
 have hi := (List.getElem?_eq_some_iff.1 hx).1
 simp only [idxOf]
 refine sF (show ¬ ((i : Int) < 0) by omega) ?_
 refine kq [2, 3, 7, 17] ?_
 refine Run.false rfl ?_
 refine Run.skip ?_
 refine Run.seq ?_
 refine Run.seq ?_
 refine regionD HM ?_
 refine RunD.rdOpen pk hRP (flat_ne (k := 7) (fun _ => rfl) (by decide) hx) fun b o e hrd => ?_
 subst e
 refine dx [0, 1, 2, 3, 4, 5, 6] ?_
 refine RunD.takeR1 7 rfl rfl kr T3 rfl pk (hrd.pa hx 3 (I x.qty) rfl) ?_
 refine dx [8, 9, 10, 11, 12] ?_
 refine RunD.takeR1 13 rfl rfl kr T3 rfl pk (hrd.pa hx 5 (I x.used) rfl) ?_
 refine tk 14 rfl rfl rfl (DetJ.sub rfl rfl) ?_
 refine dx [15] ?_
 refine kd [7, 33] rfl ?_
 refine cnd rfl (fun h3 => ?_) fun h3 => ?_
 refine rg 2 [4, 5] ?_
 exact .ret (ret_one (.tmp rfl (.tmp rfl .nil)) (by simp [tup, refd, hf, okIdx1, errOf, idxOf, *]) gv)
 refine Run.skip ?_
 refine rg 3 [4, 5] ?_
 exact .ret (ret_one (.tmp rfl (.tmp rfl .nil)) (by simp [tup, refd, hf, okIdx1, errOf, idxOf, *]) gv)
theorem ac97 (t : Sk) (m : Mv) (la : Option Addr) (nl lc : Nat) (pa : Option Addr) (pc : Nat) (enl : nl = t.layers.length) (ht : t.ok 999999) (hm : m.ok) (hq0 : m.kind = 5 → m.qty = 0) (hkd : 1 ≤ m.kind ∧ m.kind ≤ 6) : AC Tryz.prog 150 ⟨[.agg ⟨SC t la nl lc pa t.past.length pc⟩, .agg ⟨m.c⟩]⟩ (stars [own 98 7 pa (t.past).length pc ((t.past).flatMap Pa.c)]) (Outs (fun y : Sk × Co × Option Addr × Nat => Got (aDo t m) y.1 y.2.1) (fun y => .tuple ⟨[.agg ⟨SC y.1 la nl lc y.2.2.1 y.1.past.length y.2.2.2⟩, .agg ⟨y.2.1.c⟩, I (errOf (aDo t m))]⟩) (fun y => [own 98 7 y.2.2.1 y.1.past.length y.2.2.2 (y.1.past.flatMap Pa.c)])) := by
 subst enl
 have hn : t.layers.length ≤ 1000000 ∧ t.past.length ≤ 1000000 := ⟨Nat.le_trans ht.nl (by decide), Nat.le_trans ht.np (by decide)⟩
 have hnl := ht.nl; have hnp := ht.np
 obtain ⟨hm1, hm2⟩ := hm
 refine eo Tryz.func150 fun β => ?_
 refine sr ?_
 refine obx rfl fun b2 => ?_
 refine obx rfl fun b3 => ?_
 refine oal fun b4 => ?_
 refine oal fun b5 => ?_
 refine sx 1 ?_
 refine kq [2, 3, 4, 5] ?_
 refine sr ?_
 refine sx 3 ?_
 refine oal fun b7 => ?_
 refine sx 1 ?_
 refine kq [2, 3, 4, 5, 7] ?_
 refine Run.seq ?_
 refine rg 3 [2, 3, 4, 5, 7, 21] ?_
 refine cnd rfl (fun h1 => ?_) fun h1 => ?_
 refine rg 4 [2, 3, 4, 5, 7] ?_
 refine rg 4 [2, 3, 4, 5, 7] ?_
 refine sr ?_
 refine sx 11 ?_
 refine RunL.op rfl rfl (OpJ.buildSlice1 S26 rfl rfl rfl (by decide) (by decide) Z66 rfl fun b39 => ?_)
 refine RunL.op rfl rfl (OpJ.append1 (⟨m.seq, 1, m.lot, m.qty, m.cost, 0, 0⟩ : Pa) S26 M66 rfl rfl pk pk rfl rfl (by simp [Value.oneCell', Pa.c, Ly.c, Mv.c, Co.c]) rfl (by omega) (by omega) fun a40 c40 => ?_)
 refine sx 2 ?_
 refine kq [2, 4, 5, 7] ?_
 refine Run.seq ?_
 refine regionD HM ?_
 refine dx [0, 1] ?_
 refine dsw 2 [true, false] ?_
 refine dsw 3 [false] ?_
 refine dx [4] ?_
 refine kd [4, 5, 6] rfl ?_
 refine Run.ret ?_
 have hg := a1_got (t := t) (m := m) (by assumption); refine ret_out ({ t with past := t.past ++ [(⟨m.seq, 1, m.lot, m.qty, m.cost, 0, 0⟩ : Pa)] }, ⟨m.seq, m.qty, m.cost, 0⟩, a40, c40) (.cellA T28 rfl pk (by rfl) (.cellA T43 rfl pk (by rfl) (.tmp rfl .nil))) hg.2 (by rw [hg.1]; first | rfl | (simp only [List.length_set]; rfl)) ?_; (try simp only [List.length_set]); exact gv
 refine Run.skip ?_
 refine Run.seq ?_
 refine rg 3 [2, 3, 4, 5, 7, 46] ?_
 refine cnd rfl (fun h2 => ?_) fun h2 => ?_
 refine sr ?_
 refine sx 2 ?_
 refine RunL.call C137 rfl rfl rfl (ac137 t m _ _ _ _ _ _ ht.v hm1 ht.q) .nil ?_
 refine sx 5 ?_
 refine kq [2, 3, 4, 5, 7, 8, 9] ?_
 refine rg 5 [2, 3, 4, 5, 7, 8, 9] ?_
 refine rg 4 [2, 3, 4, 5, 7, 8, 9] ?_
 refine sr ?_
 refine sx 10 ?_
 refine RunL.op rfl rfl (OpJ.buildSlice1 S26 rfl rfl rfl (by decide) (by decide) Z66 rfl fun b70 => ?_)
 refine RunL.op rfl rfl (OpJ.append1 (⟨m.seq, 2, m.lot, m.qty, takenV t m, 0, 0⟩ : Pa) S26 M66 rfl rfl pk pk rfl rfl (by simp [Value.oneCell', Pa.c, Ly.c, Mv.c, Co.c]) rfl (by omega) (by omega) fun a71 c71 => ?_)
 refine sx 2 ?_
 refine kq [2, 4, 5, 7, 9] ?_
 refine Run.seq ?_
 refine regionD HM ?_
 refine dx [0, 1, 2] ?_
 refine dsw 3 [true, true, false] ?_
 refine dsw 4 [true, false] ?_
 refine dx [5] ?_
 refine kd [4, 5, 6] rfl ?_
 refine Run.ret ?_
 have hg := a2_got (t := t) (m := m) (by assumption); refine ret_out ({ t with past := t.past ++ [(⟨m.seq, 2, m.lot, m.qty, takenV t m, 0, 0⟩ : Pa)] }, ⟨m.seq, W (0 - m.qty), W (0 - takenV t m), 0⟩, a71, c71) (.cellA T28 rfl pk (by rfl) (.cellA T43 rfl pk (by rfl) (.tmp rfl .nil))) hg.2 (by rw [hg.1]; first | rfl | (simp only [List.length_set]; rfl)) ?_; (try simp only [List.length_set]); exact gv
 refine Run.skip ?_
 refine Run.seq ?_
 refine rg 3 [2, 3, 4, 5, 7, 78] ?_
 refine cnd rfl (fun h3 => ?_) fun h3 => ?_
 refine Run.seq ?_
 refine regionD HM ?_
 refine dx [0, 1] ?_
 refine dsw 2 [true, false] ?_
 refine dsw 3 [false] ?_
 refine dx [4] ?_
 refine kd [4, 5, 6] rfl ?_
 refine Run.ret ?_
 have hg := a6_got (t := t) (s := t) (c := ⟨m.seq, 0, 0, 0⟩) (m := m) (by omega); refine ret_out (t, ⟨m.seq, 0, 0, 0⟩, pa, pc) (.cellA T28 rfl pk (by rfl) (.cellA T43 rfl pk (by rfl) (.tmp rfl .nil))) hg.2 (by rw [hg.1]; first | rfl | (simp only [List.length_set]; rfl)) ?_; (try simp only [List.length_set]); exact gv
 refine Run.skip ?_
 refine sr ?_
 refine sx 2 ?_
 refine RunL.call C138 rfl rfl rfl (ac138 t la lc pa pc (own 98 7 pa (t.past).length pc ((t.past).flatMap Pa.c)) m own.rds hn.2) tks ?_
 refine sx 5 ?_
 rcases hr : refd (if m.kind = 3 then 2 else 1) m t.past with e | ⟨i, p⟩
 refine kq [2, 3, 4, 5, 7, 10, 11] ?_
 refine Run.seq ?_
 refine sr ?_
 refine sx 2 ?_
 first | refine RunL.set (congrArg Value.bool (decide_eq_true (show errOf (Except.error _) ≠ 0 from refd_ne hr))) ?_ | skip
 refine kq [2, 3, 4, 5, 7, 10, 11, 88] ?_
 refine Run.true rfl ?_
 refine Run.seq ?_
 refine regionD HM ?_
 refine dx [0, 1, 2] ?_
 refine dsw 3 [true, true, false] ?_
 refine dsw 4 [true, false] ?_
 refine dx [5] ?_
 refine kd [4, 5, 6] rfl ?_
 refine Run.ret ?_
 have hg := ae_got (t := t) (s := t) (c := ⟨m.seq, 0, 0, 0⟩) (m := m) (by omega) hr; refine ret_out (t, ⟨m.seq, 0, 0, 0⟩, pa, pc) (.cellA T28 rfl pk (by rfl) (.cellA T43 rfl pk (by rfl) (.tmp rfl .nil))) hg.2 (by rw [hg.1]; first | rfl | (simp only [List.length_set]; rfl)) ?_; (try simp only [List.length_set]); exact gv
 obtain ⟨hx, _⟩ := refd_one (by split <;> decide) hr
 have hi := (List.getElem?_eq_some_iff.1 hx).1
 obtain ⟨hp1, hp2, hp3, hp4⟩ := ht.pa i p hx
 refine RunL.ownAddr pk (flat_ne (k := 7) (fun _ => rfl) (by decide) hx) fun b e hcap => ?_
 subst e
 simp only [okIdx1]
 refine kq [2, 3, 4, 5, 7, 10, 11] ?_
 refine Run.seq ?_
 refine sr ?_
 refine sx 2 ?_
 first | refine RunL.set (congrArg Value.bool (decide_eq_true (show errOf (Except.error _) ≠ 0 from refd_ne hr))) ?_ | skip
 refine kq [2, 3, 4, 5, 7, 10, 11, 88] ?_
 refine Run.false rfl ?_
 refine Run.skip ?_
 refine sr ?_
 refine sx 5 ?_
 refine oal fun b12 => ?_
 refine sx 1 ?_
 rcases (show m.kind = 3 ∨ m.kind = 4 ∨ m.kind = 5 by omega) with hk | hk | hk
 rw [if_pos hk] at hr
 refine kq [2, 3, 4, 5, 7, 10, 11, 12] ?_
 refine Run.seq ?_
 refine sr ?_
 refine sx 3 ?_
 refine sT (by omega) ?_
 refine kq [2, 3, 4, 5, 7, 10, 11, 12, 99] ?_
 refine Run.true rfl ?_
 refine rg 4 [2, 3, 4, 5, 7, 10, 11, 12] ?_
 refine sr ?_
 refine sx 4 ?_
 refine RunL.op rfl rfl (OpJ.sub rfl rfl ?_)
 refine sx 6 ?_
 refine RunL.op rfl rfl (OpJ.sub rfl rfl ?_)
 refine RunL.call C139 rfl rfl rfl (ac139 _ _ _ (W_i64 _) hm1 (W_i64 _)) .nil ?_
 refine RunL.set (show _ = I (backV p m) from rfl) ?_
 refine sx 2 ?_
 refine kq [2, 3, 4, 5, 7, 10, 11, 12] ?_
 refine Run.region ?_
 refine sx 7 ?_
 refine RunL.op rfl rfl (OpJ.add rfl rfl ?_)
 refine sx 2 ?_
 refine RunL.op rfl rfl (OpJ.storeO (i := i) (u' := { p with usedValue := W (p.usedValue + backV p m) }) T3 rfl rfl rfl hx (fun _ => rfl) (by decide) rfl up ?_)
 refine kq [2, 3, 4, 5, 7, 10, 11, 12] ?_
 refine Run.seq ?_
 refine sr ?_
 refine sx 3 ?_
 refine sF (by omega) ?_
 refine kq [2, 3, 4, 5, 7, 10, 11, 12, 129] ?_
 refine Run.false rfl ?_
 refine Run.skip ?_
 refine Run.seq ?_
 refine sr ?_
 refine sx 3 ?_
 refine sF (by omega) ?_
 refine kq [2, 3, 4, 5, 7, 10, 11, 12, 151] ?_
 refine Run.false rfl ?_
 refine Run.skip ?_
 refine sr ?_
 have hx1 := set_get hx { p with usedValue := W (p.usedValue + backV p m) }
 refine sx 7 ?_
 refine RunL.op rfl rfl (OpJ.add rfl rfl ?_)
 refine sx 2 ?_
 refine RunL.op rfl rfl (OpJ.storeO (i := i) (u' := backP p m) T3 rfl rfl rfl hx1 (fun _ => rfl) (by decide) rfl up ?_)
 rw [List.set_set]
 refine kq [2, 4, 5, 7, 11] ?_
 refine Run.seq ?_
 refine regionD HM ?_
 refine dx [0, 1, 2] ?_
 refine dsw 3 [true, true, false] ?_
 refine dsw 4 [true, false] ?_
 refine dx [5] ?_
 refine kd [4, 5, 6] rfl ?_
 refine Run.ret ?_
 have hg := a3_got (t := t) (m := m) hk hr; refine ret_out ({ t with past := t.past.set i (backP p m) }, ⟨m.seq, m.qty, backV p m, 0⟩, (some ⟨b, 0, none⟩), pc) (.cellA T28 rfl pk (by rfl) (.cellA T43 rfl pk (by rfl) (.tmp rfl .nil))) hg.2 (by rw [hg.1]; first | rfl | (simp only [List.length_set]; rfl)) ?_; (try simp only [List.length_set]); exact gv
 rw [if_neg (by omega)] at hr
 refine kq [2, 3, 4, 5, 7, 10, 11, 12] ?_
 refine Run.seq ?_
 refine sr ?_
 refine sx 3 ?_
 refine sF (by omega) ?_
 refine kq [2, 3, 4, 5, 7, 10, 11, 12, 99] ?_
 refine Run.false rfl ?_
 refine Run.skip ?_
 refine Run.seq ?_
 refine sr ?_
 refine sx 3 ?_
 refine sT (by omega) ?_
 refine kq [2, 3, 4, 5, 7, 10, 11, 12, 129] ?_
 refine Run.true rfl ?_
 refine sr ?_
 refine sx 2 ?_
 refine RunL.call C137 rfl rfl rfl (ac137 t m _ _ _ _ _ _ ht.v hm1 ht.q) .nil ?_
 refine sx 5 ?_
 refine kq [2, 3, 4, 5, 7, 10, 12, 13, 14] ?_
 refine rg 5 [2, 3, 4, 5, 7, 10, 12, 13, 14] ?_
 refine rg 4 [2, 3, 4, 5, 7, 10, 12, 13, 14] ?_
 refine sr ?_
 refine sx 3 ?_
 refine RunL.op rfl rfl (OpJ.sub rfl rfl ?_)
 refine sx 2 ?_
 refine kq [2, 3, 4, 5, 7, 10, 12, 14] ?_
 refine Run.region ?_
 refine sx 2 ?_
 refine kq [2, 3, 4, 5, 7, 10, 11, 12] ?_
 refine Run.seq ?_
 refine sr ?_
 refine sx 3 ?_
 refine sF (by omega) ?_
 refine kq [2, 3, 4, 5, 7, 10, 11, 12, 151] ?_
 refine Run.false rfl ?_
 refine Run.skip ?_
 refine sr ?_
 refine sx 7 ?_
 refine RunL.op rfl rfl (OpJ.add rfl rfl ?_)
 refine sx 2 ?_
 refine RunL.op rfl rfl (OpJ.storeO (i := i) (u' := sendP p m) T3 rfl rfl rfl hx (fun _ => rfl) (by decide) rfl up ?_)
 refine kq [2, 4, 5, 7, 11] ?_
 refine Run.seq ?_
 refine regionD HM ?_
 refine dx [0, 1, 2] ?_
 refine dsw 3 [true, true, false] ?_
 refine dsw 4 [true, false] ?_
 refine dx [5] ?_
 refine kd [4, 5, 6] rfl ?_
 refine Run.ret ?_
 have hg := a4_got (t := t) (m := m) hk hr; refine ret_out ({ t with past := t.past.set i (sendP p m) }, ⟨m.seq, W (0 - m.qty), W (0 - takenV t m), W (takenV t m - m.cost)⟩, (some ⟨b, 0, none⟩), pc) (.cellA T28 rfl pk (by rfl) (.cellA T43 rfl pk (by rfl) (.tmp rfl .nil))) hg.2 (by rw [hg.1]; first | rfl | (simp only [List.length_set]; rfl)) ?_; (try simp only [List.length_set]); exact gv
 rw [if_neg (by omega)] at hr
 have hq00 := hq0 hk
 refine kq [2, 3, 4, 5, 7, 10, 11, 12] ?_
 refine Run.seq ?_
 refine sr ?_
 refine sx 3 ?_
 refine sF (by omega) ?_
 refine kq [2, 3, 4, 5, 7, 10, 11, 12, 99] ?_
 refine Run.false rfl ?_
 refine Run.skip ?_
 refine Run.seq ?_
 refine sr ?_
 refine sx 3 ?_
 refine sF (by omega) ?_
 refine kq [2, 3, 4, 5, 7, 10, 11, 12, 129] ?_
 refine Run.false rfl ?_
 refine Run.skip ?_
 refine Run.seq ?_
 refine sr ?_
 refine sx 3 ?_
 refine sT (by omega) ?_
 refine kq [2, 3, 4, 5, 7, 10, 11, 12, 151] ?_
 refine Run.true rfl ?_
 refine rg 3 [2, 3, 4, 5, 7, 10, 11, 12, 15] ?_
 refine Run.seq ?_
 refine rg 4 [2, 3, 4, 5, 7, 10, 11, 12, 15, 157] ?_
 refine cnd rfl (fun h4 => ?_) fun h4 => ?_
 refine Run.region ?_
 refine sx 3 ?_
 refine kq [2, 3, 4, 5, 7, 10, 11, 12, 15] ?_
 refine sr ?_
 refine sx 5 ?_
 refine RunL.call C139 rfl rfl rfl (ac139 _ _ _ hm2 (by first | exact ht.q | exact hp1) hp1) .nil ?_
 refine RunL.set (congrArg I (show _ = landV t p m by unfold landV; first | rw [if_pos (by assumption)] | rw [if_neg (by assumption)])) ?_
 refine sx 2 ?_
 refine kq [2, 3, 4, 5, 7, 10, 11, 12] ?_
 refine Run.region ?_
 refine sx 4 ?_
 refine RunL.op rfl rfl (OpJ.sub rfl rfl ?_)
 refine sx 2 ?_
 refine kq [2, 3, 4, 5, 7, 10, 11, 12] ?_
 refine sr ?_
 refine sx 7 ?_
 refine RunL.op rfl rfl (OpJ.add rfl rfl ?_)
 refine sx 2 ?_
 refine RunL.op rfl rfl (OpJ.storeO (i := i) (u' := sendP p m) T3 rfl rfl rfl hx (fun _ => rfl) (by decide) rfl up ?_)
 refine kq [2, 4, 5, 7, 11] ?_
 refine Run.seq ?_
 refine regionD HM ?_
 refine dx [0, 1, 2] ?_
 refine dsw 3 [true, true, false] ?_
 refine dsw 4 [true, false] ?_
 refine dx [5] ?_
 refine kd [4, 5, 6] rfl ?_
 refine Run.ret ?_
 have hg := a5_got (t := t) (m := m) hk hr hq00 hx hp3; refine ret_out ({ t with past := t.past.set i (sendP p m) }, ⟨m.seq, 0, landV t p m, W (m.cost - landV t p m)⟩, (some ⟨b, 0, none⟩), pc) (.cellA T28 rfl pk (by rfl) (.cellA T43 rfl pk (by rfl) (.tmp rfl .nil))) hg.2 (by rw [hg.1]; first | rfl | (simp only [List.length_set]; rfl)) ?_; (try simp only [List.length_set]); exact gv
 refine Run.skip ?_
 refine sr ?_
 refine sx 5 ?_
 refine RunL.call C139 rfl rfl rfl (ac139 _ _ _ hm2 (by first | exact ht.q | exact hp1) hp1) .nil ?_
 refine RunL.set (congrArg I (show _ = landV t p m by unfold landV; first | rw [if_pos (by assumption)] | rw [if_neg (by assumption)])) ?_
 refine sx 2 ?_
 refine kq [2, 3, 4, 5, 7, 10, 11, 12] ?_
 refine Run.region ?_
 refine sx 4 ?_
 refine RunL.op rfl rfl (OpJ.sub rfl rfl ?_)
 refine sx 2 ?_
 refine kq [2, 3, 4, 5, 7, 10, 11, 12] ?_
 refine sr ?_
 refine sx 7 ?_
 refine RunL.op rfl rfl (OpJ.add rfl rfl ?_)
 refine sx 2 ?_
 refine RunL.op rfl rfl (OpJ.storeO (i := i) (u' := sendP p m) T3 rfl rfl rfl hx (fun _ => rfl) (by decide) rfl up ?_)
 refine kq [2, 4, 5, 7, 11] ?_
 refine Run.seq ?_
 refine regionD HM ?_
 refine dx [0, 1, 2] ?_
 refine dsw 3 [true, true, false] ?_
 refine dsw 4 [true, false] ?_
 refine dx [5] ?_
 refine kd [4, 5, 6] rfl ?_
 refine Run.ret ?_
 have hg := a5_got (t := t) (m := m) hk hr hq00 hx hp3; refine ret_out ({ t with past := t.past.set i (sendP p m) }, ⟨m.seq, 0, landV t p m, W (m.cost - landV t p m)⟩, (some ⟨b, 0, none⟩), pc) (.cellA T28 rfl pk (by rfl) (.cellA T43 rfl pk (by rfl) (.tmp rfl .nil))) hg.2 (by rw [hg.1]; first | rfl | (simp only [List.length_set]; rfl)) ?_; (try simp only [List.length_set]); exact gv
theorem ac55 (s : Sk) (m : Mv) (la : Option Addr) (lc : Nat) (pa : Option Addr) (pc : Nat) (RL RP : HP) (hs : s.ok 999999) (hm : m.ok) (hRL : RdS RL la (s.layers.flatMap Ly.c)) (hRP : RdS RP pa (s.past.flatMap Pa.c)) (hsz : (m.item.size : Int) ≤ 9223372036854775807 ∧ (m.lot.size : Int) ≤ 9223372036854775807) (hf0 : s.fine) (hl0 : s.layers = []) : AC Tryz.prog 114 ⟨[.agg ⟨s.c la lc pa pc⟩, .agg ⟨m.c⟩]⟩ (stars [RL, RP]) (Outs (fun _ : Option Addr × Nat × Option Addr × Nat => True) (fun x => StV (aStep s m) x) (fun x => StB 96 98 (aStep s m) x ++ [RL, RP])) := by
 have hn : s.layers.length ≤ 1000000 ∧ s.past.length ≤ 1000000 := ⟨Nat.le_trans hs.nl (by decide), Nat.le_trans hs.np (by decide)⟩
 have hnl := hn.1; have hnp := hn.2
 have hl1 : s.layers.length = 0 := by rw [hl0]; rfl
 refine eo Tryz.func114 fun β => ?_
 refine sr ?_
 refine obx rfl fun b2 => ?_
 refine obx rfl fun b3 => ?_
 refine oal fun b4 => ?_
 refine oal fun b5 => ?_
 refine sx 1 ?_
 refine kq [2, 3, 4, 5] ?_
 refine sr ?_
 refine sx 1 ?_
 refine RunL.call C91 rfl rfl rfl (ac91 m hsz.1 hsz.2) .nil ?_
 refine sx 1 ?_
 refine kq [2, 3, 4, 5, 7] ?_
 refine Run.seq ?_
 refine rg 2 [2, 3, 4, 5, 7, 13] ?_
 refine cnd rfl (fun h1 => ?_) fun h1 => ?_
 refine rg 6 [4, 5, 6] ?_
 refine Run.ret ?_
 have hres2 : aStep s m = .error m.one := (by unfold aStep; rw [if_pos h1]); refine ret_out (none, 0, none, 0) (.cellA T28 rfl pk (by rfl) (.cellA T43 rfl pk (by rfl) (.tmp rfl .nil))) trivial (by rw [hres2]; first | rfl | (simp only [StV, summed, Sk.c, htl]; rfl)) ?_; rw [hres2]; exact gv
 refine Run.skip ?_
 refine Run.seq ?_
 refine sr ?_
 refine sx 3 ?_
 refine RunL.call C96 rfl rfl rfl (ac96 s la lc pa pc RP 0 m.seq hRP hnp) tks ?_
 refine sx 1 ?_
 refine kq [2, 3, 4, 5, 21] ?_
 refine cnd rfl (fun h2 => ?_) fun h2 => ?_
 refine rg 5 [4, 5, 6] ?_
 refine Run.ret ?_
 have hres2 : aStep s m = .error 8 := (by unfold aStep; rw [if_neg h1, if_pos (by rw [← idx_some]; simpa using h2)]); refine ret_out (none, 0, none, 0) (.cellA T28 rfl pk (by rfl) (.cellA T43 rfl pk (by rfl) (.tmp rfl .nil))) trivial (by rw [hres2]; first | rfl | (simp only [StV, summed, Sk.c, htl]; rfl)) ?_; rw [hres2]; exact gv
 refine Run.skip ?_
 refine Run.seq ?_
 refine regionD HM ?_
 refine RunD.mono (K' := fun E' L' => ∃ a33 : Option Addr, ∃ c33 : Nat, ∃ b8 : Nat, E' = [(3, .pointer (some ⟨b3, 0, none⟩)), (4, .pointer (some ⟨b4, 0, none⟩)), (5, .pointer (some ⟨b5, 0, none⟩)), (8, .pointer (some ⟨b8, 0, none⟩))] ∧ L' = [pt b8 (blk (SC s none 0 0 a33 s.past.length c33) 61), own 98 7 a33 s.past.length c33 (s.past.flatMap Pa.c), pt b3 (blk m.c 35), pt b4 (blk [I 0, I 0, I 0, .slice none 0 0, .slice none 0 0] 61), pt b5 (blk [I 0, I 0, I 0, I 0] 32), RL, RP]) ?_ ?_
 refine dx [0, 1, 2, 3, 4, 5, 7, 8] ?_
 refine RunD.two 6 11 [true, true, true, true, true, true, true, true] [true, true, true, true, true, true, true, true] rfl rfl rfl rfl rfl rfl kr kr kr (OpJ.buildSlice0 S26 fun b30 => ⟨po, ?_⟩) (OpJ.alloc Z28 fun b8 => ⟨po, ?_⟩)
 refine RunD.two 9 11 [false, false, true, true, true, true, true, true] [true, true, true, true, true, true, true, true] rfl rfl rfl rfl rfl rfl kr kr kr (OpJ.appendL (enc := Pa.c) (R := RP) ([] : List Pa) s.past S26 M66 rfl rfl pk pk hRP rfl (fun _ => rfl) (by decide) Pa.one (by simp; omega) (by simp; omega) fun a33 c33 => ⟨po, ?_⟩) (OpJ.alloc Z28 fun b8 => ⟨po, ?_⟩)
 rw [List.nil_append]
 refine dx [10] ?_
 refine RunD.op 11 [true, true, true, true, true, true, true] rfl rfl rfl kr kr (OpJ.alloc Z28 fun b8 => ⟨po, ?_⟩)
 refine dsw 12 [false, false, false, false, false, false, false] ?_
 exact dwk ⟨_, _, _, rfl, rfl⟩ rfl gv
 refine RunD.op 9 [false, false, true, true, true, true, true, true] rfl rfl rfl kr kr (OpJ.appendL (enc := Pa.c) (R := RP) ([] : List Pa) s.past S26 M66 rfl rfl pk pk hRP rfl (fun _ => rfl) (by decide) Pa.one (by simp; omega) (by simp; omega) fun a33 c33 => ⟨po, ?_⟩)
 rw [List.nil_append]
 refine dx [10] ?_
 refine dsw 12 [false, false, false, false, false, false, false] ?_
 exact dwk ⟨_, _, _, rfl, rfl⟩ rfl gv
 refine RunD.op 6 [true, true, true, true, true, true, true, true] rfl rfl rfl kr kr (OpJ.buildSlice0 S26 fun b30 => ⟨po, ?_⟩)
 refine RunD.op 9 [false, false, true, true, true, true, true, true] rfl rfl rfl kr kr (OpJ.appendL (enc := Pa.c) (R := RP) ([] : List Pa) s.past S26 M66 rfl rfl pk pk hRP rfl (fun _ => rfl) (by decide) Pa.one (by simp; omega) (by simp; omega) fun a33 c33 => ⟨po, ?_⟩)
 rw [List.nil_append]
 refine dx [10] ?_
 refine dsw 12 [false, false, false, false, false, false, false] ?_
 exact dwk ⟨_, _, _, rfl, rfl⟩ rfl gv
 rintro _ _ ⟨a33, c33, b8, rfl, rfl⟩
 refine sr ?_
 refine sx 2 ?_
 refine RunL.callX C97 rfl rfl rfl (ac97 s m none 0 0 a33 c33 hl1.symm hs hm (fun hk => (MG.of (Decidable.not_not.1 h1)).q.1 (.inl hk)) (MG.of (Decidable.not_not.1 h1)).k) tks fun ⟨y1, c1, a9, c9⟩ hgot => ?_
 refine sx 4 ?_
 refine oal fun b9 => ?_
 refine sx 3 ?_
 refine kq [4, 5, 7, 8, 9] ?_
 refine Run.seq ?_
 refine sr ?_
 refine sx 1 ?_
 rcases hres : aDo s m with e | ⟨t, c⟩
 refine sx 1 ?_
 first | refine RunL.set (congrArg Value.bool (decide_eq_true (show errOf (Except.error _) ≠ 0 from aDo_err hres))) ?_ | skip
 refine kq [4, 5, 7, 8, 9, 43] ?_
 refine Run.true rfl ?_
 refine rg 6 [4, 5, 6] ?_
 refine Run.ret ?_
 have hres2 : aStep s m = .error e := (by unfold aStep; rw [if_neg h1, if_neg (by rw [← idx_some]; simp; omega), hres]); refine ret_out (none, 0, none, 0) (.cellA T28 rfl pk (by rfl) (.cellA T43 rfl pk (by rfl) (.tmp rfl .nil))) trivial (by rw [hres2]; first | rfl | (simp only [StV, summed, Sk.c, htl]; rfl)) ?_; rw [hres2]; exact gv
 obtain ⟨rfl, rfl⟩ := hgot t c hres
 have htl : y1.layers = [] := (aDo_layers hres).trans hl0
 refine RunL.ownNilX (enc := Ly.c) 96 4 htl ?_
 refine sx 1 ?_
 first | refine RunL.set (congrArg Value.bool (decide_eq_true (show errOf (Except.error _) ≠ 0 from aDo_err hres))) ?_ | skip
 refine kq [4, 5, 7, 8, 9, 43] ?_
 refine Run.false rfl ?_
 refine Run.skip ?_
 refine sr ?_
 refine sx 4 ?_
 refine RunL.op rfl rfl (OpJ.add rfl rfl ?_)
 refine sx 2 ?_
 refine kq [4, 5, 8, 9] ?_
 refine sr ?_
 refine sx 4 ?_
 refine RunL.op rfl rfl (OpJ.add rfl rfl ?_)
 refine sx 2 ?_
 refine kq [4, 5, 8, 9] ?_
 refine Run.seq ?_
 refine sr ?_
 refine sx 4 ?_
 refine spl 62 rfl (fun g3 => ?_) fun g3 => ?_
 refine sx 9 ?_
 refine kq [4, 5, 8, 9, 71] ?_
 refine Run.true rfl ?_
 refine rg 5 [4, 5, 6] ?_
 refine Run.ret ?_
 have hres2 : aStep s m = .error 4 := (by unfold aStep; rw [if_neg h1, if_neg (by rw [← idx_some]; simp; omega), hres]; exact if_pos (by simp [aOver, summed, *])); refine ret_out (none, 0, none, 0) (.cellA T28 rfl pk (by rfl) (.cellA T43 rfl pk (by rfl) (.tmp rfl .nil))) trivial (by rw [hres2]; first | rfl | (simp only [StV, summed, Sk.c, htl]; rfl)) ?_; rw [hres2]; exact gv
 refine sx 2 ?_
 refine RunL.callG C98 rfl rfl rfl rfl rfl (ac98 _) .nil ?_
 refine sx 2 ?_
 refine spl 67 rfl (fun g4 => ?_) fun g4 => ?_
 refine sx 4 ?_
 refine kq [4, 5, 8, 9, 71] ?_
 refine Run.true rfl ?_
 refine rg 5 [4, 5, 6] ?_
 refine Run.ret ?_
 have hres2 : aStep s m = .error 4 := (by unfold aStep; rw [if_neg h1, if_neg (by rw [← idx_some]; simp; omega), hres]; exact if_pos (by simp [aOver, summed, *])); refine ret_out (none, 0, none, 0) (.cellA T28 rfl pk (by rfl) (.cellA T43 rfl pk (by rfl) (.tmp rfl .nil))) trivial (by rw [hres2]; first | rfl | (simp only [StV, summed, Sk.c, htl]; rfl)) ?_; rw [hres2]; exact gv
 refine sx 2 ?_
 refine RunL.callG C98 rfl rfl rfl rfl rfl (ac98 _) .nil ?_
 refine sx 1 ?_
 refine kq [4, 5, 8, 9, 71] ?_
 refine cnd rfl (fun h5 => ?_) fun h5 => ?_
 refine rg 5 [4, 5, 6] ?_
 refine Run.ret ?_
 have hres2 : aStep s m = .error 4 := (by unfold aStep; rw [if_neg h1, if_neg (by rw [← idx_some]; simp; omega), hres]; exact if_pos (by simp [aOver, summed, *])); refine ret_out (none, 0, none, 0) (.cellA T28 rfl pk (by rfl) (.cellA T43 rfl pk (by rfl) (.tmp rfl .nil))) trivial (by rw [hres2]; first | rfl | (simp only [StV, summed, Sk.c, htl]; rfl)) ?_; rw [hres2]; exact gv
 refine Run.skip ?_
 refine Run.seq ?_
 refine regionD HM ?_
 refine dx [0, 1] ?_
 refine dsw 2 [true, false] ?_
 refine dsw 3 [false] ?_
 refine dx [4] ?_
 refine kd [4, 5, 6] rfl ?_
 refine Run.ret ?_
 have hres2 : aStep s m = .ok (summed y1 c1, c1) := (by unfold aStep; rw [if_neg h1, if_neg (by rw [← idx_some]; simp; omega), hres]; exact if_neg (by simp [aOver, summed, *] <;> omega)); refine ret_out (none, 0, a9, c9) (.cellA T28 rfl pk (by rfl) (.cellA T43 rfl pk (by rfl) (.tmp rfl .nil))) trivial (by rw [hres2]; first | rfl | (simp only [StV, summed, Sk.c, htl]; rfl)) ?_; rw [hres2]; exact gv
theorem ac99 (s : Sk) (la : Option Addr) (lc : Nat) (pa : Option Addr) (pc : Nat) (RP : HP) (kind seq : Int) (hRP : RdS RP pa (s.past.flatMap Pa.c)) (hnp : s.past.length ≤ 1000000) : AC Tryz.prog 152 ⟨[.agg ⟨s.c la lc pa pc⟩, I kind, I seq]⟩ (stars [RP]) (Ret (I (idxOf (findI (isPast kind seq) s.past))) [RP]) := by
 refine eo Tryz.func152 fun β => ?_
 refine sr ?_
 refine obx rfl fun b3 => ?_
 refine sx 1 ?_
 refine kq [1, 2, 3] ?_
 refine Run.seq ?_
 refine rg 1 [1, 2, 3, 7] ?_
 refine Run.block ?_
 refine Run.loop (fun mm E L => ∃ i : Nat, mm = s.past.length - i ∧ i ≤ s.past.length ∧ (∀ j y, j < i → s.past[j]? = some y → isPast kind seq y = false) ∧ E = [(1, I kind), (2, I seq), (3, .pointer (some ⟨b3, 0, none⟩)), (7, I i)] ∧ L = [pt b3 (blk (s.c la lc pa pc) 61), RP]) ⟨_, 0, rfl, Nat.zero_le _, fun _ _ h => by omega, rfl, rfl⟩ ?_
 rintro _ _ _ ⟨i, rfl, hi, hI0, rfl, rfl⟩
 refine Run.seq ?_
 refine rg 5 [1, 2, 3, 7, 12] ?_
 refine cnd rfl (fun h1 => ?_) fun h1 => ?_
 refine Run.skip ?_
 refine Run.seq ?_
 refine Run.block ?_
 refine sr ?_
 obtain ⟨x, hx⟩ := get_ex (xs := s.past) (by omega)
 refine RunL.rdOpen pk hRP (flat_ne (k := 7) (fun _ => rfl) (by decide) hx) fun b o e hrd => ?_
 subst e
 refine sx 5 ?_
 refine RunL.op rfl rfl (OpJ.load1 T3 rfl pk (hrd.pa hx 0 (I x.seq) rfl) ?_)
 refine sx 3 ?_
 refine spl 23 rfl (fun g2 => ?_) fun g2 => ?_
 refine sx 3 ?_
 refine spl 26 rfl (fun g3 => ?_) fun g3 => ?_
 refine sx 10 ?_
 refine kq [1, 2, 3, 7, 36] ?_
 refine Run.true rfl ?_
 refine rg 2 [6] ?_
 refine Run.ret ?_
 exact ret_one (.tmp rfl .nil) (congrArg I (by rw [findI_at hx (by unfold isPast; simp_all) hI0]; rfl)) gv
 refine sx 5 ?_
 refine RunL.yes rfl rfl rfl rfl (OpJ.load1 T3 rfl pk (hrd.pa hx 1 (I x.kind) rfl) ?_)
 refine sx 4 ?_
 refine kq [1, 2, 3, 7, 36] ?_
 refine cnd rfl (fun h4 => ?_) fun h4 => ?_
 refine rg 2 [6] ?_
 refine Run.ret ?_
 exact ret_one (.tmp rfl .nil) (congrArg I (by rw [findI_at hx (by unfold isPast; simp_all) hI0]; rfl)) gv
 refine Run.skip ?_
 refine Run.region ?_
 refine sx 3 ?_
 exact RunL.next (Keep.sub (kt (ks := [1, 2, 3, 7]) rfl)) _ ⟨_, by omega, i + 1, rfl, by omega, notYet hx (by unfold isPast; simp_all) hI0, rfl, rfl⟩ gv
 refine sx 13 ?_
 refine kq [1, 2, 3, 7, 36] ?_
 refine Run.false rfl ?_
 refine Run.skip ?_
 refine Run.region ?_
 refine sx 3 ?_
 exact RunL.next (Keep.sub (kt (ks := [1, 2, 3, 7]) rfl)) _ ⟨_, by omega, i + 1, rfl, by omega, notYet hx (by unfold isPast; simp_all) hI0, rfl, rfl⟩ gv
 refine Run.exit ?_
 refine rg 1 [6] ?_
 refine Run.ret ?_
 exact ret_one (.tmp rfl .nil) (congrArg I (by rw [findI_none (fun j y hj => hI0 j y (by omega))]; rfl)) gv
theorem ac100 (s : Sk) (la : Option Addr) (lc : Nat) (pa : Option Addr) (pc : Nat) (RP : HP) (m : Mv) (hRP : RdS RP pa (s.past.flatMap Pa.c)) (hnp : s.past.length ≤ 1000000) : AC Tryz.prog 153 ⟨[.agg ⟨s.c la lc pa pc⟩, .agg ⟨m.c⟩]⟩ (stars [RP]) (Ret (.tuple ⟨[I (okIdx (refd (if m.kind = 3 then 2 else 1) m s.past)), I (errOf (refd (if m.kind = 3 then 2 else 1) m s.past))]⟩) [RP]) := by
 refine eo Tryz.func153 fun β => ?_
 refine sr ?_
 refine obx rfl fun b2 => ?_
 refine obx rfl fun b3 => ?_
 refine sx 2 ?_
 refine kq [2, 3] ?_
 refine rg 1 [2, 3, 6] ?_
 refine Run.seq ?_
 refine rg 3 [2, 3, 6, 10] ?_
 refine cnd rfl (fun h1 => ?_) fun h1 => ?_
 refine Run.region ?_
 refine sx 1 ?_
 refine kq [2, 3, 6] ?_
 refine sr ?_
 refine sx 4 ?_
 refine RunL.call C99 rfl rfl rfl (ac99 s la lc pa pc RP _ m.ref hRP hnp) tks ?_
 refine sx 1 ?_
 refine kq [2, 3, 7] ?_
 refine Run.seq ?_
 refine sr ?_
 refine sx 2 ?_
 rcases hf : findI (isPast 2 m.ref) s.past with _ | ⟨i, x⟩
 refine kq [2, 3, 7, 17] ?_
 refine Run.true rfl ?_
 refine rg 2 [4, 5] ?_
 exact .ret (ret_one (.tmp rfl (.tmp rfl .nil)) (by simp [tup, refd, hf, okIdx, errOf, idxOf, *]) gv)
 obtain ⟨hx, _⟩ := findI_some hf
 have hi := (List.getElem?_eq_some_iff.1 hx).1
 simp only [idxOf]
 refine sF (show ¬ ((i : Int) < 0) by omega) ?_
 refine kq [2, 3, 7, 17] ?_
 refine Run.false rfl ?_
 refine Run.skip ?_
 refine Run.seq ?_
 refine Run.seq ?_
 refine regionD HM ?_
 refine RunD.rdOpen pk hRP (flat_ne (k := 7) (fun _ => rfl) (by decide) hx) fun b o e hrd => ?_
 subst e
 refine dx [0, 1, 2, 3, 4, 5, 6] ?_
 refine RunD.takeR1 7 rfl rfl kr T3 rfl pk (hrd.pa hx 3 (I x.qty) rfl) ?_
 refine dx [8, 9, 10, 11, 12] ?_
 refine RunD.takeR1 13 rfl rfl kr T3 rfl pk (hrd.pa hx 5 (I x.used) rfl) ?_
 refine tk 14 rfl rfl rfl (DetJ.sub rfl rfl) ?_
 refine dx [15] ?_
 refine kd [7, 33] rfl ?_
 refine cnd rfl (fun h2 => ?_) fun h2 => ?_
 refine rg 2 [4, 5] ?_
 exact .ret (ret_one (.tmp rfl (.tmp rfl .nil)) (by simp [tup, refd, hf, okIdx, errOf, idxOf, *]) gv)
 refine Run.skip ?_
 refine rg 3 [4, 5] ?_
 exact .ret (ret_one (.tmp rfl (.tmp rfl .nil)) (by simp [tup, refd, hf, okIdx, errOf, idxOf, *]) gv)
 refine Run.skip ?_
 refine sr ?_
 refine sx 4 ?_
 refine RunL.call C99 rfl rfl rfl (ac99 s la lc pa pc RP _ m.ref hRP hnp) tks ?_
 refine sx 1 ?_
 refine kq [2, 3, 7] ?_
 refine Run.seq ?_
 refine sr ?_
 refine sx 2 ?_
 rcases hf : findI (isPast 1 m.ref) s.past with _ | ⟨i, x⟩
 refine kq [2, 3, 7, 17] ?_
 refine Run.true rfl ?_
 refine rg 2 [4, 5] ?_
 exact .ret (ret_one (.tmp rfl (.tmp rfl .nil)) (by simp [tup, refd, hf, okIdx, errOf, idxOf, *]) gv)
 obtain ⟨hx, _⟩ := findI_some hf
 have hi := (List.getElem?_eq_some_iff.1 hx).1
 simp only [idxOf]
 refine sF (show ¬ ((i : Int) < 0) by omega) ?_
 refine kq [2, 3, 7, 17] ?_
 refine Run.false rfl ?_
 refine Run.skip ?_
 refine Run.seq ?_
 refine Run.seq ?_
 refine regionD HM ?_
 refine RunD.rdOpen pk hRP (flat_ne (k := 7) (fun _ => rfl) (by decide) hx) fun b o e hrd => ?_
 subst e
 refine dx [0, 1, 2, 3, 4, 5, 6] ?_
 refine RunD.takeR1 7 rfl rfl kr T3 rfl pk (hrd.pa hx 3 (I x.qty) rfl) ?_
 refine dx [8, 9, 10, 11, 12] ?_
 refine RunD.takeR1 13 rfl rfl kr T3 rfl pk (hrd.pa hx 5 (I x.used) rfl) ?_
 refine tk 14 rfl rfl rfl (DetJ.sub rfl rfl) ?_
 refine dx [15] ?_
 refine kd [7, 33] rfl ?_
 refine cnd rfl (fun h3 => ?_) fun h3 => ?_
 refine rg 2 [4, 5] ?_
 exact .ret (ret_one (.tmp rfl (.tmp rfl .nil)) (by simp [tup, refd, hf, okIdx, errOf, idxOf, *]) gv)
 refine Run.skip ?_
 refine rg 3 [4, 5] ?_
 exact .ret (ret_one (.tmp rfl (.tmp rfl .nil)) (by simp [tup, refd, hf, okIdx, errOf, idxOf, *]) gv)
theorem ac101 (q p : Int) (hq : i64 q) (hp : i64 p) : AC Tryz.prog 154 ⟨[I q, I p]⟩ (stars []) (Ret (I (valN q p)) []) := by
 refine eo Tryz.func154 fun β => ?_
 refine rg 1 [0, 1] ?_
 refine sr ?_
 refine sx 2 ?_
 refine RunL.call C140 rfl rfl rfl (ac140 _ _ (by omega) (by omega)) .nil ?_
 refine sx 5 ?_
 refine kq [5, 6] ?_
 refine Run.seq ?_
 refine rg 2 [5, 14] ?_
 refine cnd rfl (fun h1 => ?_) fun h1 => ?_
 refine rg 1 [4] ?_
 refine Run.ret ?_
 exact ret_one (.tmp rfl .nil) (congrArg I (by unfold valN; simp_all)) gv
 refine Run.skip ?_
 refine rg 3 [4] ?_
 refine Run.ret ?_
 exact ret_one (.tmp rfl .nil) (congrArg I (by unfold valN; simp_all)) gv
theorem ac56 (s : Sk) (m : Mv) (la : Option Addr) (lc : Nat) (pa : Option Addr) (pc : Nat) (RL RP : HP) (hs : s.ok 999999) (hm : m.ok) (hRL : RdS RL la (s.layers.flatMap Ly.c)) (hRP : RdS RP pa (s.past.flatMap Pa.c)) (hsz : (m.item.size : Int) ≤ 9223372036854775807 ∧ (m.lot.size : Int) ≤ 9223372036854775807) (hf0 : s.fine) : AC Tryz.prog 115 ⟨[.agg ⟨s.c la lc pa pc⟩, .agg ⟨m.c⟩]⟩ (stars [RL, RP]) (Outs (fun _ : Option Addr × Nat × Option Addr × Nat => True) (fun x => StV (rsStep s m) x) (fun x => StB 96 98 (rsStep s m) x ++ [RL, RP])) := by
 have hn : s.layers.length ≤ 1000000 ∧ s.past.length ≤ 1000000 := ⟨Nat.le_trans hs.nl (by decide), Nat.le_trans hs.np (by decide)⟩
 have hnl := hn.1; have hnp := hn.2
 refine eo Tryz.func115 fun β => ?_
 refine sr ?_
 refine obx rfl fun b2 => ?_
 refine obx rfl fun b3 => ?_
 refine oal fun b4 => ?_
 refine oal fun b5 => ?_
 refine sx 1 ?_
 refine kq [2, 3, 4, 5] ?_
 refine Run.seq ?_
 refine sr ?_
 refine sx 1 ?_
 refine RunL.call C91 rfl rfl rfl (ac91 m hsz.1 hsz.2) .nil ?_
 refine sx 1 ?_
 refine kq [2, 3, 4, 5, 7] ?_
 refine rg 2 [2, 3, 4, 5, 7, 17] ?_
 refine cnd rfl (fun h1 => ?_) fun h1 => ?_
 refine rg 6 [4, 5, 6] ?_
 refine Run.ret ?_
 have hres : rsStep s m = .error m.one := (by unfold rsStep; rw [if_pos h1]); refine ret_out (none, 0, none, 0) (.cellA T28 rfl pk (by rfl) (.cellA T43 rfl pk (by rfl) (.tmp rfl .nil))) trivial (by rw [hres]; rfl) ?_; rw [hres]; exact gv
 refine Run.skip ?_
 refine Run.seq ?_
 refine sr ?_
 refine sx 3 ?_
 refine RunL.call C99 rfl rfl rfl (ac99 s la lc pa pc RP 0 m.seq hRP hnp) tks ?_
 refine sx 1 ?_
 refine kq [2, 3, 4, 5, 25] ?_
 refine cnd rfl (fun h2 => ?_) fun h2 => ?_
 refine rg 5 [4, 5, 6] ?_
 refine Run.ret ?_
 have hres : rsStep s m = .error 8 := (by unfold rsStep; rw [if_neg h1, if_pos (by rw [← idx_some]; simpa using h2)]); refine ret_out (none, 0, none, 0) (.cellA T28 rfl pk (by rfl) (.cellA T43 rfl pk (by rfl) (.tmp rfl .nil))) trivial (by rw [hres]; rfl) ?_; rw [hres]; exact gv
 refine Run.skip ?_
 refine Run.seq ?_
 refine regionD HM ?_
 refine RunD.mono (K' := fun E' L' => ∃ a35 : Option Addr, ∃ c35 : Nat, ∃ b8 : Nat, E' = [(2, .pointer (some ⟨b2, 0, none⟩)), (3, .pointer (some ⟨b3, 0, none⟩)), (4, .pointer (some ⟨b4, 0, none⟩)), (5, .pointer (some ⟨b5, 0, none⟩)), (8, .pointer (some ⟨b8, 0, none⟩))] ∧ L' = [pt b8 (blk [I s.qty, I 0, I s.price, .slice none 0 0, .slice a35 s.past.length c35] 61), own 98 7 a35 s.past.length c35 (s.past.flatMap Pa.c), pt b2 (blk (s.c la lc pa pc) 61), pt b3 (blk m.c 35), pt b4 (blk [I 0, I 0, I 0, .slice none 0 0, .slice none 0 0] 61), pt b5 (blk [I 0, I 0, I 0, I 0] 32), RL, RP]) ?_ ?_
 refine dx [0, 1, 2, 3, 5, 6] ?_
 refine RunD.two 4 9 [true, true, true, true, true, true] [true, true, true, true, true, true] rfl rfl rfl rfl rfl rfl kr kr kr (OpJ.buildSlice0 S26 fun b32 => ⟨po, ?_⟩) (OpJ.alloc Z28 fun b8 => ⟨po, ?_⟩)
 refine RunD.two 7 9 [false, false, true, true, true, true] [true, true, true, true, true, true] rfl rfl rfl rfl rfl rfl kr kr kr (OpJ.appendL (enc := Pa.c) (R := RP) ([] : List Pa) s.past S26 M66 rfl rfl pk pk hRP rfl (fun _ => rfl) (by decide) Pa.one (by simp; omega) (by simp; omega) fun a35 c35 => ⟨po, ?_⟩) (OpJ.alloc Z28 fun b8 => ⟨po, ?_⟩)
 rw [List.nil_append]
 refine dx [8] ?_
 refine RunD.op 9 [true, true, true, true, true] rfl rfl rfl kr kr (OpJ.alloc Z28 fun b8 => ⟨po, ?_⟩)
 refine dsw 10 [false, false, false, false, false] ?_
 exact dwk ⟨_, _, _, rfl, rfl⟩ rfl gv
 refine RunD.op 7 [false, false, true, true, true, true] rfl rfl rfl kr kr (OpJ.appendL (enc := Pa.c) (R := RP) ([] : List Pa) s.past S26 M66 rfl rfl pk pk hRP rfl (fun _ => rfl) (by decide) Pa.one (by simp; omega) (by simp; omega) fun a35 c35 => ⟨po, ?_⟩)
 rw [List.nil_append]
 refine dx [8] ?_
 refine dsw 10 [false, false, false, false, false] ?_
 exact dwk ⟨_, _, _, rfl, rfl⟩ rfl gv
 refine RunD.op 4 [true, true, true, true, true, true] rfl rfl rfl kr kr (OpJ.buildSlice0 S26 fun b32 => ⟨po, ?_⟩)
 refine RunD.op 7 [false, false, true, true, true, true] rfl rfl rfl kr kr (OpJ.appendL (enc := Pa.c) (R := RP) ([] : List Pa) s.past S26 M66 rfl rfl pk pk hRP rfl (fun _ => rfl) (by decide) Pa.one (by simp; omega) (by simp; omega) fun a35 c35 => ⟨po, ?_⟩)
 rw [List.nil_append]
 refine dx [8] ?_
 refine dsw 10 [false, false, false, false, false] ?_
 exact dwk ⟨_, _, _, rfl, rfl⟩ rfl gv
 rintro _ _ ⟨a35, c35, b8, rfl, rfl⟩
 refine sr ?_
 have h0 := rs_do (Decidable.not_not.1 h1) (show ¬ (findI (isPast 0 m.seq) s.past).isSome = true by rw [← idx_some]; simp; omega)
 have hmg := (MG.of (Decidable.not_not.1 h1)).k
 refine sx 3 ?_
 refine oal fun b9 => ?_
 refine sx 1 ?_
 refine kq [2, 3, 4, 5, 8, 9] ?_
 refine sr ?_
 refine sx 1 ?_
 rcases (show m.kind = 1 ∨ m.kind = 2 ∨ m.kind = 3 ∨ m.kind = 4 ∨ m.kind = 5 ∨ m.kind = 6 by omega) with hk | hk | hk | hk | hk | hk
 have hst := h0.trans (rs_1 hk)
 refine kq [2, 3, 4, 5, 8, 9, 10] ?_
 refine Run.seq ?_
 refine sr ?_
 refine sx 3 ?_
 refine sF (by omega) ?_
 refine sx 4 ?_
 refine sF (by omega) ?_
 refine sx 5 ?_
 refine sF (by omega) ?_
 refine sx 1 ?_
 refine kq [2, 3, 4, 5, 8, 9, 10, 52] ?_
 refine Run.false rfl ?_
 refine Run.skip ?_
 refine Run.seq ?_
 refine rg 2 [2, 3, 4, 5, 8, 9, 10, 66] ?_
 refine Run.block ?_
 refine Run.seq ?_
 refine sr ?_
 refine sx 1 ?_
 refine sT (by omega) ?_
 refine sx 1 ?_
 refine kq [2, 3, 4, 5, 8, 9, 10, 66, 67] ?_
 refine Run.true rfl ?_
 refine Run.skip ?_
 refine Run.true rfl ?_
 refine Run.region ?_
 refine sx 4 ?_
 refine kq [2, 3, 4, 5, 8, 9, 10] ?_
 refine sr ?_
 refine sx 4 ?_
 refine RunL.op rfl rfl (OpJ.add rfl rfl ?_)
 refine sx 2 ?_
 refine kq [2, 3, 4, 5, 8, 9, 10] ?_
 refine Run.seq ?_
 refine rg 3 [2, 3, 4, 5, 8, 9, 10, 93] ?_
 refine cnd rfl (fun h3 => ?_) fun h3 => ?_
 refine rg 5 [4, 5, 6] ?_
 refine Run.ret ?_
 have hres : rsStep s m = .error _ := hst.trans (rsFin_21 (by omega)); refine ret_out (none, 0, none, 0) (.cellA T28 rfl pk (by rfl) (.cellA T43 rfl pk (by rfl) (.tmp rfl .nil))) trivial (by rw [hres]; rfl) ?_; rw [hres]; exact gv
 refine Run.skip ?_
 refine sr ?_
 refine sx 4 ?_
 refine RunL.call C101 rfl rfl rfl (ac101 _ _ (W_i64 _) (by first | exact hs.pr | exact hm.2)) .nil ?_
 refine sx 2 ?_
 refine kq [2, 3, 4, 5, 8, 9, 10] ?_
 refine Run.seq ?_
 refine sr ?_
 refine sx 4 ?_
 refine spl 105 rfl (fun g4 => ?_) fun g4 => ?_
 refine sx 5 ?_
 refine kq [2, 3, 4, 5, 8, 9, 10, 110] ?_
 refine Run.true rfl ?_
 refine rg 5 [4, 5, 6] ?_
 refine Run.ret ?_
 have hres : rsStep s m = .error _ := hst.trans (rsFin_4a (by omega) (by omega)); refine ret_out (none, 0, none, 0) (.cellA T28 rfl pk (by rfl) (.cellA T43 rfl pk (by rfl) (.tmp rfl .nil))) trivial (by rw [hres]; rfl) ?_; rw [hres]; exact gv
 refine sx 2 ?_
 refine RunL.callG C102 rfl rfl rfl rfl rfl (ac102 _) .nil ?_
 refine sx 2 ?_
 refine kq [2, 3, 4, 5, 8, 9, 10, 110] ?_
 refine cnd rfl (fun h5 => ?_) fun h5 => ?_
 refine rg 5 [4, 5, 6] ?_
 refine Run.ret ?_
 have hres : rsStep s m = .error _ := hst.trans (rsFin_4b (by omega) (by first | assumption | exact (Bool.not_eq_true' _).mp (by assumption) | simp_all)); refine ret_out (none, 0, none, 0) (.cellA T28 rfl pk (by rfl) (.cellA T43 rfl pk (by rfl) (.tmp rfl .nil))) trivial (by rw [hres]; rfl) ?_; rw [hres]; exact gv
 refine Run.skip ?_
 refine sr ?_
 refine sx 4 ?_
 refine RunL.op rfl rfl (OpJ.sub rfl rfl ?_)
 refine sx 2 ?_
 refine kq [2, 3, 4, 5, 8, 9, 10] ?_
 refine Run.seq ?_
 refine rg 2 [2, 3, 4, 5, 8, 9, 10, 120] ?_
 refine Run.block ?_
 refine sr ?_
 refine sx 1 ?_
 refine sT (by omega) ?_
 refine sx 1 ?_
 refine kq [2, 3, 4, 5, 8, 9, 10, 120, 121] ?_
 refine Run.true rfl ?_
 refine sr ?_
 refine sx 4 ?_
 refine RunL.op rfl rfl (OpJ.sub rfl rfl ?_)
 refine sx 2 ?_
 refine kq [3, 4, 5, 8, 9] ?_
 refine Run.region ?_
 refine sx 13 ?_
 refine RunL.op rfl rfl (OpJ.buildSlice1 S26 rfl rfl rfl (by decide) (by decide) Z66 rfl fun b142 => ?_)
 refine RunL.op rfl rfl (OpJ.append1 (⟨m.seq, m.kind, m.lot, m.qty, m.cost, 0, 0⟩ : Pa) S26 M66 rfl rfl pk pk rfl rfl (by simp [Value.oneCell', Pa.c, Ly.c, Mv.c, Co.c]) rfl (by omega) (by omega) fun a143 c143 => ?_)
 refine sx 2 ?_
 refine kq [4, 5, 8, 9] ?_
 refine Run.seq ?_
 refine sr ?_
 refine RunL.ownNil 96 4 ?_
 refine sx 2 ?_
 refine RunL.call C102 rfl rfl rfl (ac102 _) .nil ?_
 refine RunL.op rfl rfl (OpJ.not rfl ?_)
 refine kq [4, 5, 8, 9, 234] ?_
 refine cnd rfl (fun h6 => ?_) fun h6 => ?_
 refine rg 5 [4, 5, 6] ?_
 refine Run.ret ?_
 have hres : rsStep s m = .error _ := hst.trans (rsFin_4c (by omega) (by omega) (by first | assumption | exact (Bool.not_eq_false' _).mp (by assumption) | simp_all) (by first | assumption | exact (Bool.not_eq_true' _).mp (by assumption) | simp_all)); refine ret_out (none, 0, none, 0) (.cellA T28 rfl pk (by rfl) (.cellA T43 rfl pk (by rfl) (.tmp rfl .nil))) trivial (by rw [hres]; rfl) ?_; rw [hres]; exact gv
 refine Run.skip ?_
 refine Run.seq ?_
 refine regionD HM ?_
 refine dx [0, 1] ?_
 refine dsw 2 [true, false] ?_
 refine dsw 3 [false] ?_
 refine dx [4] ?_
 refine kd [4, 5, 6] rfl ?_
 refine Run.ret ?_
 have hres : rsStep s m = .ok _ := hst.trans (rsFin_ok (by omega) (by omega) (by first | assumption | exact (Bool.not_eq_false' _).mp (by assumption) | simp_all) (by first | assumption | exact (Bool.not_eq_false' _).mp (by assumption) | simp_all)); refine ret_out (none, 0, a143, c143) (.cellA T28 rfl pk (by rfl) (.cellA T43 rfl pk (by rfl) (.tmp rfl .nil))) trivial (by rw [hres]; first | rfl | (simp only [StV, Sk.c, List.length_set]; rfl)) ?_; rw [hres]; (try simp only [StB, List.length_set]); exact gv
 have hst := h0.trans (rs_2 hk)
 refine kq [2, 3, 4, 5, 8, 9, 10] ?_
 refine Run.seq ?_
 refine sr ?_
 refine sx 3 ?_
 refine sF (by omega) ?_
 refine sx 4 ?_
 refine sF (by omega) ?_
 refine sx 5 ?_
 refine sF (by omega) ?_
 refine sx 1 ?_
 refine kq [2, 3, 4, 5, 8, 9, 10, 52] ?_
 refine Run.false rfl ?_
 refine Run.skip ?_
 refine Run.seq ?_
 refine rg 2 [2, 3, 4, 5, 8, 9, 10, 66] ?_
 refine Run.block ?_
 refine Run.seq ?_
 refine sr ?_
 refine sx 1 ?_
 refine sF (by omega) ?_
 refine sx 1 ?_
 refine kq [2, 3, 4, 5, 8, 9, 10, 66, 67] ?_
 refine Run.false rfl ?_
 refine Run.region ?_
 refine sx 1 ?_
 refine sF (by omega) ?_
 refine sx 1 ?_
 refine kq [2, 3, 4, 5, 8, 9, 10, 66, 67] ?_
 refine Run.false rfl ?_
 refine Run.seq ?_
 refine sr ?_
 refine sx 1 ?_
 refine sT (by omega) ?_
 refine sx 1 ?_
 refine kq [2, 3, 4, 5, 8, 9, 10, 66, 73] ?_
 refine Run.true rfl ?_
 refine Run.skip ?_
 refine Run.true rfl ?_
 refine Run.region ?_
 refine sx 5 ?_
 refine kq [2, 3, 4, 5, 8, 9, 10] ?_
 refine sr ?_
 refine sx 4 ?_
 refine RunL.op rfl rfl (OpJ.add rfl rfl ?_)
 refine sx 2 ?_
 refine kq [2, 3, 4, 5, 8, 9, 10] ?_
 refine Run.seq ?_
 refine rg 3 [2, 3, 4, 5, 8, 9, 10, 93] ?_
 refine cnd rfl (fun h7 => ?_) fun h7 => ?_
 refine rg 5 [4, 5, 6] ?_
 refine Run.ret ?_
 have hres : rsStep s m = .error _ := hst.trans (rsFin_21 (by omega)); refine ret_out (none, 0, none, 0) (.cellA T28 rfl pk (by rfl) (.cellA T43 rfl pk (by rfl) (.tmp rfl .nil))) trivial (by rw [hres]; rfl) ?_; rw [hres]; exact gv
 refine Run.skip ?_
 refine sr ?_
 refine sx 4 ?_
 refine RunL.call C101 rfl rfl rfl (ac101 _ _ (W_i64 _) (by first | exact hs.pr | exact hm.2)) .nil ?_
 refine sx 2 ?_
 refine kq [2, 3, 4, 5, 8, 9, 10] ?_
 refine Run.seq ?_
 refine sr ?_
 refine sx 4 ?_
 refine spl 105 rfl (fun g8 => ?_) fun g8 => ?_
 refine sx 5 ?_
 refine kq [2, 3, 4, 5, 8, 9, 10, 110] ?_
 refine Run.true rfl ?_
 refine rg 5 [4, 5, 6] ?_
 refine Run.ret ?_
 have hres : rsStep s m = .error _ := hst.trans (rsFin_4a (by omega) (by omega)); refine ret_out (none, 0, none, 0) (.cellA T28 rfl pk (by rfl) (.cellA T43 rfl pk (by rfl) (.tmp rfl .nil))) trivial (by rw [hres]; rfl) ?_; rw [hres]; exact gv
 refine sx 2 ?_
 refine RunL.callG C102 rfl rfl rfl rfl rfl (ac102 _) .nil ?_
 refine sx 2 ?_
 refine kq [2, 3, 4, 5, 8, 9, 10, 110] ?_
 refine cnd rfl (fun h9 => ?_) fun h9 => ?_
 refine rg 5 [4, 5, 6] ?_
 refine Run.ret ?_
 have hres : rsStep s m = .error _ := hst.trans (rsFin_4b (by omega) (by first | assumption | exact (Bool.not_eq_true' _).mp (by assumption) | simp_all)); refine ret_out (none, 0, none, 0) (.cellA T28 rfl pk (by rfl) (.cellA T43 rfl pk (by rfl) (.tmp rfl .nil))) trivial (by rw [hres]; rfl) ?_; rw [hres]; exact gv
 refine Run.skip ?_
 refine sr ?_
 refine sx 4 ?_
 refine RunL.op rfl rfl (OpJ.sub rfl rfl ?_)
 refine sx 2 ?_
 refine kq [2, 3, 4, 5, 8, 9, 10] ?_
 refine Run.seq ?_
 refine rg 2 [2, 3, 4, 5, 8, 9, 10, 120] ?_
 refine Run.block ?_
 refine sr ?_
 refine sx 1 ?_
 refine sF (by omega) ?_
 refine sx 1 ?_
 refine kq [2, 3, 4, 5, 8, 9, 10, 120, 121] ?_
 refine Run.false rfl ?_
 refine sr ?_
 refine sx 1 ?_
 refine sT (by omega) ?_
 refine sx 1 ?_
 refine kq [2, 3, 4, 5, 8, 9, 10, 120, 145] ?_
 refine Run.true rfl ?_
 refine Run.region ?_
 refine sx 14 ?_
 refine RunL.op rfl rfl (OpJ.buildSlice1 S26 rfl rfl rfl (by decide) (by decide) Z66 rfl fun b161 => ?_)
 refine RunL.op rfl rfl (OpJ.append1 (⟨m.seq, m.kind, m.lot, m.qty, W (0 - rsC s s.price (W (0 - m.qty))), 0, 0⟩ : Pa) S26 M66 rfl rfl pk pk rfl rfl (by simp [Value.oneCell', Pa.c, Ly.c, Mv.c, Co.c]) rfl (by omega) (by omega) fun a162 c162 => ?_)
 refine sx 2 ?_
 refine kq [4, 5, 8, 9] ?_
 refine Run.seq ?_
 refine sr ?_
 refine RunL.ownNil 96 4 ?_
 refine sx 2 ?_
 refine RunL.call C102 rfl rfl rfl (ac102 _) .nil ?_
 refine RunL.op rfl rfl (OpJ.not rfl ?_)
 refine kq [4, 5, 8, 9, 234] ?_
 refine cnd rfl (fun h10 => ?_) fun h10 => ?_
 refine rg 5 [4, 5, 6] ?_
 refine Run.ret ?_
 have hres : rsStep s m = .error _ := hst.trans (rsFin_4c (by omega) (by omega) (by first | assumption | exact (Bool.not_eq_false' _).mp (by assumption) | simp_all) (by first | assumption | exact (Bool.not_eq_true' _).mp (by assumption) | simp_all)); refine ret_out (none, 0, none, 0) (.cellA T28 rfl pk (by rfl) (.cellA T43 rfl pk (by rfl) (.tmp rfl .nil))) trivial (by rw [hres]; rfl) ?_; rw [hres]; exact gv
 refine Run.skip ?_
 refine Run.seq ?_
 refine regionD HM ?_
 refine dx [0, 1] ?_
 refine dsw 2 [true, false] ?_
 refine dsw 3 [false] ?_
 refine dx [4] ?_
 refine kd [4, 5, 6] rfl ?_
 refine Run.ret ?_
 have hres : rsStep s m = .ok _ := hst.trans (rsFin_ok (by omega) (by omega) (by first | assumption | exact (Bool.not_eq_false' _).mp (by assumption) | simp_all) (by first | assumption | exact (Bool.not_eq_false' _).mp (by assumption) | simp_all)); refine ret_out (none, 0, a162, c162) (.cellA T28 rfl pk (by rfl) (.cellA T43 rfl pk (by rfl) (.tmp rfl .nil))) trivial (by rw [hres]; first | rfl | (simp only [StV, Sk.c, List.length_set]; rfl)) ?_; rw [hres]; (try simp only [StB, List.length_set]); exact gv
 refine kq [2, 3, 4, 5, 8, 9, 10] ?_
 refine Run.seq ?_
 refine sr ?_
 refine sx 3 ?_
 refine sT (by omega) ?_
 refine sx 10 ?_
 refine kq [2, 3, 4, 5, 8, 9, 10, 52] ?_
 refine Run.true rfl ?_
 refine sr ?_
 refine sx 2 ?_
 refine RunL.call C100 rfl rfl rfl (ac100 s la lc pa pc RP m hRP hnp) tks ?_
 refine sx 5 ?_
 rcases hr : refd (if m.kind = 3 then 2 else 1) m s.past with e | ⟨i, p⟩
 have hst := h0.trans (rs_e (by omega) hr)
 refine kq [2, 3, 4, 5, 8, 9, 11, 12] ?_
 refine Run.seq ?_
 refine sr ?_
 refine sx 2 ?_
 first | refine RunL.set (congrArg Value.bool (decide_eq_true (show errOf (Except.error _) ≠ 0 from refd_ne hr))) ?_ | skip
 refine kq [2, 3, 4, 5, 8, 9, 11, 12, 60] ?_
 refine Run.true rfl ?_
 refine rg 6 [4, 5, 6] ?_
 refine Run.ret ?_
 have hres : rsStep s m = .error e := hst; refine ret_out (none, 0, none, 0) (.cellA T28 rfl pk (by rfl) (.cellA T43 rfl pk (by rfl) (.tmp rfl .nil))) trivial (by rw [hres]; rfl) ?_; rw [hres]; exact gv
 have hst := h0.trans (rs_3 hk hr)
 obtain ⟨hx, _⟩ := refd_one (by split <;> decide) hr
 have hi := (List.getElem?_eq_some_iff.1 hx).1
 obtain ⟨hp1, hp2, hp3, hp4⟩ := hs.pa i p hx
 simp only [okIdx]
 refine kq [2, 3, 4, 5, 8, 9, 11, 12] ?_
 refine Run.seq ?_
 refine sr ?_
 refine sx 2 ?_
 first | refine RunL.set (congrArg Value.bool (decide_eq_true (show errOf (Except.error _) ≠ 0 from refd_ne hr))) ?_ | skip
 refine kq [2, 3, 4, 5, 8, 9, 11, 12, 60] ?_
 refine Run.false rfl ?_
 refine Run.skip ?_
 refine Run.region ?_
 refine sx 2 ?_
 refine kq [2, 3, 4, 5, 8, 9, 10] ?_
 refine Run.seq ?_
 refine rg 2 [2, 3, 4, 5, 8, 9, 10, 66] ?_
 refine Run.block ?_
 refine Run.seq ?_
 refine sr ?_
 refine sx 1 ?_
 refine sF (by omega) ?_
 refine sx 1 ?_
 refine kq [2, 3, 4, 5, 8, 9, 10, 66, 67] ?_
 refine Run.false rfl ?_
 refine Run.region ?_
 refine sx 1 ?_
 refine sT (by omega) ?_
 refine sx 1 ?_
 refine kq [2, 3, 4, 5, 8, 9, 10, 66, 67] ?_
 refine Run.true rfl ?_
 refine Run.region ?_
 refine sx 4 ?_
 refine kq [2, 3, 4, 5, 8, 9, 10] ?_
 refine sr ?_
 refine sx 4 ?_
 refine RunL.op rfl rfl (OpJ.add rfl rfl ?_)
 refine sx 2 ?_
 refine kq [2, 3, 4, 5, 8, 9, 10] ?_
 refine Run.seq ?_
 refine rg 3 [2, 3, 4, 5, 8, 9, 10, 93] ?_
 refine cnd rfl (fun h11 => ?_) fun h11 => ?_
 refine rg 5 [4, 5, 6] ?_
 refine Run.ret ?_
 have hres : rsStep s m = .error _ := hst.trans (rsFin_21 (by omega)); refine ret_out (none, 0, none, 0) (.cellA T28 rfl pk (by rfl) (.cellA T43 rfl pk (by rfl) (.tmp rfl .nil))) trivial (by rw [hres]; rfl) ?_; rw [hres]; exact gv
 refine Run.skip ?_
 refine sr ?_
 refine sx 4 ?_
 refine RunL.call C101 rfl rfl rfl (ac101 _ _ (W_i64 _) (by first | exact hs.pr | exact hm.2)) .nil ?_
 refine sx 2 ?_
 refine kq [2, 3, 4, 5, 8, 9, 10] ?_
 refine Run.seq ?_
 refine sr ?_
 refine sx 4 ?_
 refine spl 105 rfl (fun g12 => ?_) fun g12 => ?_
 refine sx 5 ?_
 refine kq [2, 3, 4, 5, 8, 9, 10, 110] ?_
 refine Run.true rfl ?_
 refine rg 5 [4, 5, 6] ?_
 refine Run.ret ?_
 have hres : rsStep s m = .error _ := hst.trans (rsFin_4a (by omega) (by omega)); refine ret_out (none, 0, none, 0) (.cellA T28 rfl pk (by rfl) (.cellA T43 rfl pk (by rfl) (.tmp rfl .nil))) trivial (by rw [hres]; rfl) ?_; rw [hres]; exact gv
 refine sx 2 ?_
 refine RunL.callG C102 rfl rfl rfl rfl rfl (ac102 _) .nil ?_
 refine sx 2 ?_
 refine kq [2, 3, 4, 5, 8, 9, 10, 110] ?_
 refine cnd rfl (fun h13 => ?_) fun h13 => ?_
 refine rg 5 [4, 5, 6] ?_
 refine Run.ret ?_
 have hres : rsStep s m = .error _ := hst.trans (rsFin_4b (by omega) (by first | assumption | exact (Bool.not_eq_true' _).mp (by assumption) | simp_all)); refine ret_out (none, 0, none, 0) (.cellA T28 rfl pk (by rfl) (.cellA T43 rfl pk (by rfl) (.tmp rfl .nil))) trivial (by rw [hres]; rfl) ?_; rw [hres]; exact gv
 refine Run.skip ?_
 refine sr ?_
 refine sx 4 ?_
 refine RunL.op rfl rfl (OpJ.sub rfl rfl ?_)
 refine sx 2 ?_
 refine kq [2, 3, 4, 5, 8, 9, 10] ?_
 refine Run.seq ?_
 refine rg 2 [2, 3, 4, 5, 8, 9, 10, 120] ?_
 refine Run.block ?_
 refine sr ?_
 refine sx 1 ?_
 refine sF (by omega) ?_
 refine sx 1 ?_
 refine kq [2, 3, 4, 5, 8, 9, 10, 120, 121] ?_
 refine Run.false rfl ?_
 refine sr ?_
 refine sx 1 ?_
 refine sF (by omega) ?_
 refine sx 1 ?_
 refine kq [2, 3, 4, 5, 8, 9, 10, 120, 145] ?_
 refine Run.false rfl ?_
 refine sr ?_
 refine sx 1 ?_
 refine sT (by omega) ?_
 refine sx 1 ?_
 refine kq [2, 3, 4, 5, 8, 9, 10, 120, 164] ?_
 refine Run.true rfl ?_
 refine Run.seq ?_
 refine regionD HM ?_
 refine RunD.rdOpen (R := RP) pk hRP (flat_ne (k := 7) (fun _ => rfl) (by decide) hx) fun b o e hrd => ?_
 subst e
 refine dx [0, 1, 2, 3] ?_
 refine RunD.takeR (R := RP) 4 rfl rfl kr T66 rfl pk (hrd.elem (fun _ => rfl) hx) rfl ?_
 refine dx [5, 6] ?_
 refine RunD.op 7 [false, false, false, false, false, false, true] rfl rfl rfl kr kr (OpJ.callRet C103 rfl rfl (ac103 p m hm.1) .nil ⟨po, ?_⟩)
 refine dx [8] ?_
 refine kd [3, 4, 5, 8, 9, 10, 13] rfl ?_
 refine sr ?_
 refine sx 3 ?_
 refine RunL.op rfl rfl (OpJ.sub rfl rfl ?_)
 refine sx 2 ?_
 refine kq [3, 4, 5, 8, 9, 10, 13] ?_
 refine Run.seq ?_
 refine regionD HM ?_
 refine RunD.ownAddr pk (flat_ne (k := 7) (fun _ => rfl) (by decide) hx) fun bq e hcap => ?_
 subst e
 refine dx [0, 1, 2, 3, 4, 5, 6, 7] ?_
 refine tk 8 rfl rfl rfl (DetJ.add rfl rfl) ?_
 refine dx [9, 10] ?_
 refine RunD.op 11 [false, false, false, false, false, false, false, false, false, false, false] rfl rfl rfl kr kr (OpJ.storeO (i := i) (u' := sendP p m) T3 rfl rfl rfl hx (fun _ => rfl) (by decide) rfl up ⟨po, ?_⟩)
 refine kd [4, 5, 8, 9, 10, 13] rfl ?_
 refine Run.region ?_
 have hx1 := set_get hx (sendP p m)
 refine sx 7 ?_
 refine RunL.op rfl rfl (OpJ.add rfl rfl ?_)
 refine sx 2 ?_
 refine RunL.op rfl rfl (OpJ.storeO (i := i) (u' := backP p m) T3 rfl rfl rfl hx1 (fun _ => rfl) (by decide) rfl up ?_)
 rw [List.set_set]
 refine kq [4, 5, 8, 9] ?_
 refine Run.seq ?_
 refine sr ?_
 refine RunL.ownNil 96 4 ?_
 refine sx 2 ?_
 refine RunL.call C102 rfl rfl rfl (ac102 _) .nil ?_
 refine RunL.op rfl rfl (OpJ.not rfl ?_)
 refine kq [4, 5, 8, 9, 234] ?_
 refine cnd rfl (fun h14 => ?_) fun h14 => ?_
 refine rg 5 [4, 5, 6] ?_
 refine Run.ret ?_
 have hres : rsStep s m = .error _ := hst.trans (rsFin_4c (by omega) (by omega) (by first | assumption | exact (Bool.not_eq_false' _).mp (by assumption) | simp_all) (by first | assumption | exact (Bool.not_eq_true' _).mp (by assumption) | simp_all)); refine ret_out (none, 0, none, 0) (.cellA T28 rfl pk (by rfl) (.cellA T43 rfl pk (by rfl) (.tmp rfl .nil))) trivial (by rw [hres]; rfl) ?_; rw [hres]; exact gv
 refine Run.skip ?_
 refine Run.seq ?_
 refine regionD HM ?_
 refine dx [0, 1] ?_
 refine dsw 2 [true, false] ?_
 refine dsw 3 [false] ?_
 refine dx [4] ?_
 refine kd [4, 5, 6] rfl ?_
 refine Run.ret ?_
 have hres : rsStep s m = .ok _ := hst.trans (rsFin_ok (by omega) (by omega) (by first | assumption | exact (Bool.not_eq_false' _).mp (by assumption) | simp_all) (by first | assumption | exact (Bool.not_eq_false' _).mp (by assumption) | simp_all)); refine ret_out (none, 0, (some ⟨bq, 0, none⟩), c35) (.cellA T28 rfl pk (by rfl) (.cellA T43 rfl pk (by rfl) (.tmp rfl .nil))) trivial (by rw [hres]; first | rfl | (simp only [StV, Sk.c, List.length_set]; rfl)) ?_; rw [hres]; (try simp only [StB, List.length_set]); exact gv
 refine kq [2, 3, 4, 5, 8, 9, 10] ?_
 refine Run.seq ?_
 refine sr ?_
 refine sx 3 ?_
 refine sF (by omega) ?_
 refine sx 4 ?_
 refine sT (by omega) ?_
 refine sx 6 ?_
 refine kq [2, 3, 4, 5, 8, 9, 10, 52] ?_
 refine Run.true rfl ?_
 refine sr ?_
 refine sx 2 ?_
 refine RunL.call C100 rfl rfl rfl (ac100 s la lc pa pc RP m hRP hnp) tks ?_
 refine sx 5 ?_
 rcases hr : refd (if m.kind = 3 then 2 else 1) m s.past with e | ⟨i, p⟩
 have hst := h0.trans (rs_e (by omega) hr)
 refine kq [2, 3, 4, 5, 8, 9, 11, 12] ?_
 refine Run.seq ?_
 refine sr ?_
 refine sx 2 ?_
 first | refine RunL.set (congrArg Value.bool (decide_eq_true (show errOf (Except.error _) ≠ 0 from refd_ne hr))) ?_ | skip
 refine kq [2, 3, 4, 5, 8, 9, 11, 12, 60] ?_
 refine Run.true rfl ?_
 refine rg 6 [4, 5, 6] ?_
 refine Run.ret ?_
 have hres : rsStep s m = .error e := hst; refine ret_out (none, 0, none, 0) (.cellA T28 rfl pk (by rfl) (.cellA T43 rfl pk (by rfl) (.tmp rfl .nil))) trivial (by rw [hres]; rfl) ?_; rw [hres]; exact gv
 have hst := h0.trans (rs_4 hk hr)
 obtain ⟨hx, _⟩ := refd_one (by split <;> decide) hr
 have hi := (List.getElem?_eq_some_iff.1 hx).1
 obtain ⟨hp1, hp2, hp3, hp4⟩ := hs.pa i p hx
 simp only [okIdx]
 refine kq [2, 3, 4, 5, 8, 9, 11, 12] ?_
 refine Run.seq ?_
 refine sr ?_
 refine sx 2 ?_
 first | refine RunL.set (congrArg Value.bool (decide_eq_true (show errOf (Except.error _) ≠ 0 from refd_ne hr))) ?_ | skip
 refine kq [2, 3, 4, 5, 8, 9, 11, 12, 60] ?_
 refine Run.false rfl ?_
 refine Run.skip ?_
 refine Run.region ?_
 refine sx 2 ?_
 refine kq [2, 3, 4, 5, 8, 9, 10] ?_
 refine Run.seq ?_
 refine rg 2 [2, 3, 4, 5, 8, 9, 10, 66] ?_
 refine Run.block ?_
 refine Run.seq ?_
 refine sr ?_
 refine sx 1 ?_
 refine sF (by omega) ?_
 refine sx 1 ?_
 refine kq [2, 3, 4, 5, 8, 9, 10, 66, 67] ?_
 refine Run.false rfl ?_
 refine Run.region ?_
 refine sx 1 ?_
 refine sF (by omega) ?_
 refine sx 1 ?_
 refine kq [2, 3, 4, 5, 8, 9, 10, 66, 67] ?_
 refine Run.false rfl ?_
 refine Run.seq ?_
 refine sr ?_
 refine sx 1 ?_
 refine sF (by omega) ?_
 refine sx 1 ?_
 refine kq [2, 3, 4, 5, 8, 9, 10, 66, 73] ?_
 refine Run.false rfl ?_
 refine Run.region ?_
 refine sx 1 ?_
 refine sT (by omega) ?_
 refine sx 1 ?_
 refine kq [2, 3, 4, 5, 8, 9, 10, 66, 73] ?_
 refine Run.true rfl ?_
 refine Run.region ?_
 refine sx 5 ?_
 refine kq [2, 3, 4, 5, 8, 9, 10] ?_
 refine sr ?_
 refine sx 4 ?_
 refine RunL.op rfl rfl (OpJ.add rfl rfl ?_)
 refine sx 2 ?_
 refine kq [2, 3, 4, 5, 8, 9, 10] ?_
 refine Run.seq ?_
 refine rg 3 [2, 3, 4, 5, 8, 9, 10, 93] ?_
 refine cnd rfl (fun h15 => ?_) fun h15 => ?_
 refine rg 5 [4, 5, 6] ?_
 refine Run.ret ?_
 have hres : rsStep s m = .error _ := hst.trans (rsFin_21 (by omega)); refine ret_out (none, 0, none, 0) (.cellA T28 rfl pk (by rfl) (.cellA T43 rfl pk (by rfl) (.tmp rfl .nil))) trivial (by rw [hres]; rfl) ?_; rw [hres]; exact gv
 refine Run.skip ?_
 refine sr ?_
 refine sx 4 ?_
 refine RunL.call C101 rfl rfl rfl (ac101 _ _ (W_i64 _) (by first | exact hs.pr | exact hm.2)) .nil ?_
 refine sx 2 ?_
 refine kq [2, 3, 4, 5, 8, 9, 10] ?_
 refine Run.seq ?_
 refine sr ?_
 refine sx 4 ?_
 refine spl 105 rfl (fun g16 => ?_) fun g16 => ?_
 refine sx 5 ?_
 refine kq [2, 3, 4, 5, 8, 9, 10, 110] ?_
 refine Run.true rfl ?_
 refine rg 5 [4, 5, 6] ?_
 refine Run.ret ?_
 have hres : rsStep s m = .error _ := hst.trans (rsFin_4a (by omega) (by omega)); refine ret_out (none, 0, none, 0) (.cellA T28 rfl pk (by rfl) (.cellA T43 rfl pk (by rfl) (.tmp rfl .nil))) trivial (by rw [hres]; rfl) ?_; rw [hres]; exact gv
 refine sx 2 ?_
 refine RunL.callG C102 rfl rfl rfl rfl rfl (ac102 _) .nil ?_
 refine sx 2 ?_
 refine kq [2, 3, 4, 5, 8, 9, 10, 110] ?_
 refine cnd rfl (fun h17 => ?_) fun h17 => ?_
 refine rg 5 [4, 5, 6] ?_
 refine Run.ret ?_
 have hres : rsStep s m = .error _ := hst.trans (rsFin_4b (by omega) (by first | assumption | exact (Bool.not_eq_true' _).mp (by assumption) | simp_all)); refine ret_out (none, 0, none, 0) (.cellA T28 rfl pk (by rfl) (.cellA T43 rfl pk (by rfl) (.tmp rfl .nil))) trivial (by rw [hres]; rfl) ?_; rw [hres]; exact gv
 refine Run.skip ?_
 refine sr ?_
 refine sx 4 ?_
 refine RunL.op rfl rfl (OpJ.sub rfl rfl ?_)
 refine sx 2 ?_
 refine kq [2, 3, 4, 5, 8, 9, 10] ?_
 refine Run.seq ?_
 refine rg 2 [2, 3, 4, 5, 8, 9, 10, 120] ?_
 refine Run.block ?_
 refine sr ?_
 refine sx 1 ?_
 refine sF (by omega) ?_
 refine sx 1 ?_
 refine kq [2, 3, 4, 5, 8, 9, 10, 120, 121] ?_
 refine Run.false rfl ?_
 refine sr ?_
 refine sx 1 ?_
 refine sF (by omega) ?_
 refine sx 1 ?_
 refine kq [2, 3, 4, 5, 8, 9, 10, 120, 145] ?_
 refine Run.false rfl ?_
 refine sr ?_
 refine sx 1 ?_
 refine sF (by omega) ?_
 refine sx 1 ?_
 refine kq [2, 3, 4, 5, 8, 9, 10, 120, 164] ?_
 refine Run.false rfl ?_
 refine sr ?_
 refine sx 1 ?_
 refine sT (by omega) ?_
 refine sx 1 ?_
 refine kq [3, 4, 5, 8, 9, 10, 120, 200] ?_
 refine Run.true rfl ?_
 refine sr ?_
 refine sx 5 ?_
 refine RunL.op rfl rfl (OpJ.sub rfl rfl ?_)
 refine sx 2 ?_
 refine kq [3, 4, 5, 8, 9, 10] ?_
 refine regionD HM ?_
 refine RunD.ownAddr pk (flat_ne (k := 7) (fun _ => rfl) (by decide) hx) fun bq e hcap => ?_
 subst e
 refine dx [0, 1, 2, 3, 4, 5, 6, 7] ?_
 refine tk 8 rfl rfl rfl (DetJ.add rfl rfl) ?_
 refine dx [9, 10] ?_
 refine RunD.op 11 [false, false, false, false, false, false, false, false, false, false, false] rfl rfl rfl kr kr (OpJ.storeO (i := i) (u' := sendP p m) T3 rfl rfl rfl hx (fun _ => rfl) (by decide) rfl up ⟨po, ?_⟩)
 refine kd [4, 5, 8, 9] rfl ?_
 refine Run.seq ?_
 refine sr ?_
 refine RunL.ownNil 96 4 ?_
 refine sx 2 ?_
 refine RunL.call C102 rfl rfl rfl (ac102 _) .nil ?_
 refine RunL.op rfl rfl (OpJ.not rfl ?_)
 refine kq [4, 5, 8, 9, 234] ?_
 refine cnd rfl (fun h18 => ?_) fun h18 => ?_
 refine rg 5 [4, 5, 6] ?_
 refine Run.ret ?_
 have hres : rsStep s m = .error _ := hst.trans (rsFin_4c (by omega) (by omega) (by first | assumption | exact (Bool.not_eq_false' _).mp (by assumption) | simp_all) (by first | assumption | exact (Bool.not_eq_true' _).mp (by assumption) | simp_all)); refine ret_out (none, 0, none, 0) (.cellA T28 rfl pk (by rfl) (.cellA T43 rfl pk (by rfl) (.tmp rfl .nil))) trivial (by rw [hres]; rfl) ?_; rw [hres]; exact gv
 refine Run.skip ?_
 refine Run.seq ?_
 refine regionD HM ?_
 refine dx [0, 1] ?_
 refine dsw 2 [true, false] ?_
 refine dsw 3 [false] ?_
 refine dx [4] ?_
 refine kd [4, 5, 6] rfl ?_
 refine Run.ret ?_
 have hres : rsStep s m = .ok _ := hst.trans (rsFin_ok (by omega) (by omega) (by first | assumption | exact (Bool.not_eq_false' _).mp (by assumption) | simp_all) (by first | assumption | exact (Bool.not_eq_false' _).mp (by assumption) | simp_all)); refine ret_out (none, 0, (some ⟨bq, 0, none⟩), c35) (.cellA T28 rfl pk (by rfl) (.cellA T43 rfl pk (by rfl) (.tmp rfl .nil))) trivial (by rw [hres]; first | rfl | (simp only [StV, Sk.c, List.length_set]; rfl)) ?_; rw [hres]; (try simp only [StB, List.length_set]); exact gv
 refine kq [2, 3, 4, 5, 8, 9, 10] ?_
 refine Run.seq ?_
 refine sr ?_
 refine sx 3 ?_
 refine sF (by omega) ?_
 refine sx 4 ?_
 refine sF (by omega) ?_
 refine sx 5 ?_
 refine sT (by omega) ?_
 refine sx 1 ?_
 refine kq [2, 3, 4, 5, 8, 9, 10, 52] ?_
 refine Run.true rfl ?_
 refine sr ?_
 refine sx 2 ?_
 refine RunL.call C100 rfl rfl rfl (ac100 s la lc pa pc RP m hRP hnp) tks ?_
 refine sx 5 ?_
 rcases hr : refd (if m.kind = 3 then 2 else 1) m s.past with e | ⟨i, p⟩
 have hst := h0.trans (rs_e (by omega) hr)
 refine kq [2, 3, 4, 5, 8, 9, 11, 12] ?_
 refine Run.seq ?_
 refine sr ?_
 refine sx 2 ?_
 first | refine RunL.set (congrArg Value.bool (decide_eq_true (show errOf (Except.error _) ≠ 0 from refd_ne hr))) ?_ | skip
 refine kq [2, 3, 4, 5, 8, 9, 11, 12, 60] ?_
 refine Run.true rfl ?_
 refine rg 6 [4, 5, 6] ?_
 refine Run.ret ?_
 have hres : rsStep s m = .error e := hst; refine ret_out (none, 0, none, 0) (.cellA T28 rfl pk (by rfl) (.cellA T43 rfl pk (by rfl) (.tmp rfl .nil))) trivial (by rw [hres]; rfl) ?_; rw [hres]; exact gv
 have hst := h0.trans (rs_5 hk hr)
 obtain ⟨hx, _⟩ := refd_one (by split <;> decide) hr
 have hi := (List.getElem?_eq_some_iff.1 hx).1
 obtain ⟨hp1, hp2, hp3, hp4⟩ := hs.pa i p hx
 simp only [okIdx]
 refine kq [2, 3, 4, 5, 8, 9, 11, 12] ?_
 refine Run.seq ?_
 refine sr ?_
 refine sx 2 ?_
 first | refine RunL.set (congrArg Value.bool (decide_eq_true (show errOf (Except.error _) ≠ 0 from refd_ne hr))) ?_ | skip
 refine kq [2, 3, 4, 5, 8, 9, 11, 12, 60] ?_
 refine Run.false rfl ?_
 refine Run.skip ?_
 refine Run.region ?_
 refine sx 2 ?_
 refine kq [2, 3, 4, 5, 8, 9, 10] ?_
 refine Run.seq ?_
 refine rg 2 [2, 3, 4, 5, 8, 9, 10, 66] ?_
 refine Run.block ?_
 refine Run.seq ?_
 refine sr ?_
 refine sx 1 ?_
 refine sF (by omega) ?_
 refine sx 1 ?_
 refine kq [2, 3, 4, 5, 8, 9, 10, 66, 67] ?_
 refine Run.false rfl ?_
 refine Run.region ?_
 refine sx 1 ?_
 refine sF (by omega) ?_
 refine sx 1 ?_
 refine kq [2, 3, 4, 5, 8, 9, 10, 66, 67] ?_
 refine Run.false rfl ?_
 refine Run.seq ?_
 refine sr ?_
 refine sx 1 ?_
 refine sF (by omega) ?_
 refine sx 1 ?_
 refine kq [2, 3, 4, 5, 8, 9, 10, 66, 73] ?_
 refine Run.false rfl ?_
 refine Run.region ?_
 refine sx 1 ?_
 refine sF (by omega) ?_
 refine sx 1 ?_
 refine kq [2, 3, 4, 5, 8, 9, 10, 66, 73] ?_
 refine Run.false rfl ?_
 refine sr ?_
 refine sx 1 ?_
 refine sF (by omega) ?_
 refine sx 1 ?_
 refine kq [2, 3, 4, 5, 8, 9, 10, 80] ?_
 refine Run.false rfl ?_
 refine Run.skip ?_
 refine sr ?_
 refine sx 4 ?_
 refine RunL.op rfl rfl (OpJ.add rfl rfl ?_)
 refine sx 2 ?_
 refine kq [2, 3, 4, 5, 8, 9, 10] ?_
 refine Run.seq ?_
 refine rg 3 [2, 3, 4, 5, 8, 9, 10, 93] ?_
 refine cnd rfl (fun h19 => ?_) fun h19 => ?_
 refine rg 5 [4, 5, 6] ?_
 refine Run.ret ?_
 have hres : rsStep s m = .error _ := hst.trans (rsFin_21 (by omega)); refine ret_out (none, 0, none, 0) (.cellA T28 rfl pk (by rfl) (.cellA T43 rfl pk (by rfl) (.tmp rfl .nil))) trivial (by rw [hres]; rfl) ?_; rw [hres]; exact gv
 refine Run.skip ?_
 refine sr ?_
 refine sx 4 ?_
 refine RunL.call C101 rfl rfl rfl (ac101 _ _ (W_i64 _) (by first | exact hs.pr | exact hm.2)) .nil ?_
 refine sx 2 ?_
 refine kq [2, 3, 4, 5, 8, 9, 10] ?_
 refine Run.seq ?_
 refine sr ?_
 refine sx 4 ?_
 refine spl 105 rfl (fun g20 => ?_) fun g20 => ?_
 refine sx 5 ?_
 refine kq [2, 3, 4, 5, 8, 9, 10, 110] ?_
 refine Run.true rfl ?_
 refine rg 5 [4, 5, 6] ?_
 refine Run.ret ?_
 have hres : rsStep s m = .error _ := hst.trans (rsFin_4a (by omega) (by omega)); refine ret_out (none, 0, none, 0) (.cellA T28 rfl pk (by rfl) (.cellA T43 rfl pk (by rfl) (.tmp rfl .nil))) trivial (by rw [hres]; rfl) ?_; rw [hres]; exact gv
 refine sx 2 ?_
 refine RunL.callG C102 rfl rfl rfl rfl rfl (ac102 _) .nil ?_
 refine sx 2 ?_
 refine kq [2, 3, 4, 5, 8, 9, 10, 110] ?_
 refine cnd rfl (fun h21 => ?_) fun h21 => ?_
 refine rg 5 [4, 5, 6] ?_
 refine Run.ret ?_
 have hres : rsStep s m = .error _ := hst.trans (rsFin_4b (by omega) (by first | assumption | exact (Bool.not_eq_true' _).mp (by assumption) | simp_all)); refine ret_out (none, 0, none, 0) (.cellA T28 rfl pk (by rfl) (.cellA T43 rfl pk (by rfl) (.tmp rfl .nil))) trivial (by rw [hres]; rfl) ?_; rw [hres]; exact gv
 refine Run.skip ?_
 refine sr ?_
 refine sx 4 ?_
 refine RunL.op rfl rfl (OpJ.sub rfl rfl ?_)
 refine sx 2 ?_
 refine kq [2, 3, 4, 5, 8, 9, 10] ?_
 refine Run.seq ?_
 refine rg 2 [2, 3, 4, 5, 8, 9, 10, 120] ?_
 refine Run.block ?_
 refine sr ?_
 refine sx 1 ?_
 refine sF (by omega) ?_
 refine sx 1 ?_
 refine kq [2, 3, 4, 5, 8, 9, 10, 120, 121] ?_
 refine Run.false rfl ?_
 refine sr ?_
 refine sx 1 ?_
 refine sF (by omega) ?_
 refine sx 1 ?_
 refine kq [2, 3, 4, 5, 8, 9, 10, 120, 145] ?_
 refine Run.false rfl ?_
 refine sr ?_
 refine sx 1 ?_
 refine sF (by omega) ?_
 refine sx 1 ?_
 refine kq [2, 3, 4, 5, 8, 9, 10, 120, 164] ?_
 refine Run.false rfl ?_
 refine sr ?_
 refine sx 1 ?_
 refine sF (by omega) ?_
 refine sx 1 ?_
 refine kq [3, 4, 5, 8, 9, 10, 120, 200] ?_
 refine Run.false rfl ?_
 refine sr ?_
 refine sx 1 ?_
 refine sT (by omega) ?_
 refine sx 1 ?_
 refine kq [3, 4, 5, 8, 9, 120, 220] ?_
 refine Run.true rfl ?_
 refine Run.region ?_
 refine sx 4 ?_
 refine kq [4, 5, 8, 9] ?_
 refine Run.seq ?_
 refine sr ?_
 refine RunL.ownNil 96 4 ?_
 refine sx 2 ?_
 refine RunL.call C102 rfl rfl rfl (ac102 _) .nil ?_
 refine RunL.op rfl rfl (OpJ.not rfl ?_)
 refine kq [4, 5, 8, 9, 234] ?_
 refine cnd rfl (fun h22 => ?_) fun h22 => ?_
 refine rg 5 [4, 5, 6] ?_
 refine Run.ret ?_
 have hres : rsStep s m = .error _ := hst.trans (rsFin_4c (by omega) (by omega) (by first | assumption | exact (Bool.not_eq_false' _).mp (by assumption) | simp_all) (by first | assumption | exact (Bool.not_eq_true' _).mp (by assumption) | simp_all)); refine ret_out (none, 0, none, 0) (.cellA T28 rfl pk (by rfl) (.cellA T43 rfl pk (by rfl) (.tmp rfl .nil))) trivial (by rw [hres]; rfl) ?_; rw [hres]; exact gv
 refine Run.skip ?_
 refine Run.seq ?_
 refine regionD HM ?_
 refine dx [0, 1] ?_
 refine dsw 2 [true, false] ?_
 refine dsw 3 [false] ?_
 refine dx [4] ?_
 refine kd [4, 5, 6] rfl ?_
 refine Run.ret ?_
 have hres : rsStep s m = .ok _ := hst.trans (rsFin_ok (by omega) (by omega) (by first | assumption | exact (Bool.not_eq_false' _).mp (by assumption) | simp_all) (by first | assumption | exact (Bool.not_eq_false' _).mp (by assumption) | simp_all)); refine ret_out (none, 0, a35, c35) (.cellA T28 rfl pk (by rfl) (.cellA T43 rfl pk (by rfl) (.tmp rfl .nil))) trivial (by rw [hres]; first | rfl | (simp only [StV, Sk.c, List.length_set]; rfl)) ?_; rw [hres]; (try simp only [StB, List.length_set]); exact gv
 have hst := h0.trans (rs_6 hk)
 refine kq [2, 3, 4, 5, 8, 9, 10] ?_
 refine Run.seq ?_
 refine sr ?_
 refine sx 3 ?_
 refine sF (by omega) ?_
 refine sx 4 ?_
 refine sF (by omega) ?_
 refine sx 5 ?_
 refine sF (by omega) ?_
 refine sx 1 ?_
 refine kq [2, 3, 4, 5, 8, 9, 10, 52] ?_
 refine Run.false rfl ?_
 refine Run.skip ?_
 refine Run.seq ?_
 refine rg 2 [2, 3, 4, 5, 8, 9, 10, 66] ?_
 refine Run.block ?_
 refine Run.seq ?_
 refine sr ?_
 refine sx 1 ?_
 refine sF (by omega) ?_
 refine sx 1 ?_
 refine kq [2, 3, 4, 5, 8, 9, 10, 66, 67] ?_
 refine Run.false rfl ?_
 refine Run.region ?_
 refine sx 1 ?_
 refine sF (by omega) ?_
 refine sx 1 ?_
 refine kq [2, 3, 4, 5, 8, 9, 10, 66, 67] ?_
 refine Run.false rfl ?_
 refine Run.seq ?_
 refine sr ?_
 refine sx 1 ?_
 refine sF (by omega) ?_
 refine sx 1 ?_
 refine kq [2, 3, 4, 5, 8, 9, 10, 66, 73] ?_
 refine Run.false rfl ?_
 refine Run.region ?_
 refine sx 1 ?_
 refine sF (by omega) ?_
 refine sx 1 ?_
 refine kq [2, 3, 4, 5, 8, 9, 10, 66, 73] ?_
 refine Run.false rfl ?_
 refine sr ?_
 refine sx 1 ?_
 refine sT (by omega) ?_
 refine sx 1 ?_
 refine kq [2, 3, 4, 5, 8, 9, 10, 80] ?_
 refine Run.true rfl ?_
 refine Run.region ?_
 refine sx 4 ?_
 refine kq [2, 3, 4, 5, 8, 9, 10] ?_
 refine sr ?_
 refine sx 4 ?_
 refine RunL.op rfl rfl (OpJ.add rfl rfl ?_)
 refine sx 2 ?_
 refine kq [2, 3, 4, 5, 8, 9, 10] ?_
 refine Run.seq ?_
 refine rg 3 [2, 3, 4, 5, 8, 9, 10, 93] ?_
 refine cnd rfl (fun h23 => ?_) fun h23 => ?_
 refine rg 5 [4, 5, 6] ?_
 refine Run.ret ?_
 have hres : rsStep s m = .error _ := hst.trans (rsFin_21 (by omega)); refine ret_out (none, 0, none, 0) (.cellA T28 rfl pk (by rfl) (.cellA T43 rfl pk (by rfl) (.tmp rfl .nil))) trivial (by rw [hres]; rfl) ?_; rw [hres]; exact gv
 refine Run.skip ?_
 refine sr ?_
 refine sx 4 ?_
 refine RunL.call C101 rfl rfl rfl (ac101 _ _ (W_i64 _) (by first | exact hs.pr | exact hm.2)) .nil ?_
 refine sx 2 ?_
 refine kq [2, 3, 4, 5, 8, 9, 10] ?_
 refine Run.seq ?_
 refine sr ?_
 refine sx 4 ?_
 refine spl 105 rfl (fun g24 => ?_) fun g24 => ?_
 refine sx 5 ?_
 refine kq [2, 3, 4, 5, 8, 9, 10, 110] ?_
 refine Run.true rfl ?_
 refine rg 5 [4, 5, 6] ?_
 refine Run.ret ?_
 have hres : rsStep s m = .error _ := hst.trans (rsFin_4a (by omega) (by omega)); refine ret_out (none, 0, none, 0) (.cellA T28 rfl pk (by rfl) (.cellA T43 rfl pk (by rfl) (.tmp rfl .nil))) trivial (by rw [hres]; rfl) ?_; rw [hres]; exact gv
 refine sx 2 ?_
 refine RunL.callG C102 rfl rfl rfl rfl rfl (ac102 _) .nil ?_
 refine sx 2 ?_
 refine kq [2, 3, 4, 5, 8, 9, 10, 110] ?_
 refine cnd rfl (fun h25 => ?_) fun h25 => ?_
 refine rg 5 [4, 5, 6] ?_
 refine Run.ret ?_
 have hres : rsStep s m = .error _ := hst.trans (rsFin_4b (by omega) (by first | assumption | exact (Bool.not_eq_true' _).mp (by assumption) | simp_all)); refine ret_out (none, 0, none, 0) (.cellA T28 rfl pk (by rfl) (.cellA T43 rfl pk (by rfl) (.tmp rfl .nil))) trivial (by rw [hres]; rfl) ?_; rw [hres]; exact gv
 refine Run.skip ?_
 refine sr ?_
 refine sx 4 ?_
 refine RunL.op rfl rfl (OpJ.sub rfl rfl ?_)
 refine sx 2 ?_
 refine kq [2, 3, 4, 5, 8, 9, 10] ?_
 refine Run.seq ?_
 refine rg 2 [2, 3, 4, 5, 8, 9, 10, 120] ?_
 refine Run.block ?_
 refine sr ?_
 refine sx 1 ?_
 refine sF (by omega) ?_
 refine sx 1 ?_
 refine kq [2, 3, 4, 5, 8, 9, 10, 120, 121] ?_
 refine Run.false rfl ?_
 refine sr ?_
 refine sx 1 ?_
 refine sF (by omega) ?_
 refine sx 1 ?_
 refine kq [2, 3, 4, 5, 8, 9, 10, 120, 145] ?_
 refine Run.false rfl ?_
 refine sr ?_
 refine sx 1 ?_
 refine sF (by omega) ?_
 refine sx 1 ?_
 refine kq [2, 3, 4, 5, 8, 9, 10, 120, 164] ?_
 refine Run.false rfl ?_
 refine sr ?_
 refine sx 1 ?_
 refine sF (by omega) ?_
 refine sx 1 ?_
 refine kq [3, 4, 5, 8, 9, 10, 120, 200] ?_
 refine Run.false rfl ?_
 refine sr ?_
 refine sx 1 ?_
 refine sF (by omega) ?_
 refine sx 1 ?_
 refine kq [3, 4, 5, 8, 9, 120, 220] ?_
 refine Run.false rfl ?_
 refine sr ?_
 refine sx 1 ?_
 refine sT (by omega) ?_
 refine sx 1 ?_
 refine kq [4, 5, 8, 9, 225] ?_
 refine Run.true rfl ?_
 refine Run.region ?_
 refine sx 5 ?_
 refine kq [4, 5, 8, 9] ?_
 refine Run.seq ?_
 refine sr ?_
 refine RunL.ownNil 96 4 ?_
 refine sx 2 ?_
 refine RunL.call C102 rfl rfl rfl (ac102 _) .nil ?_
 refine RunL.op rfl rfl (OpJ.not rfl ?_)
 refine kq [4, 5, 8, 9, 234] ?_
 refine cnd rfl (fun h26 => ?_) fun h26 => ?_
 refine rg 5 [4, 5, 6] ?_
 refine Run.ret ?_
 have hres : rsStep s m = .error _ := hst.trans (rsFin_4c (by omega) (by omega) (by first | assumption | exact (Bool.not_eq_false' _).mp (by assumption) | simp_all) (by first | assumption | exact (Bool.not_eq_true' _).mp (by assumption) | simp_all)); refine ret_out (none, 0, none, 0) (.cellA T28 rfl pk (by rfl) (.cellA T43 rfl pk (by rfl) (.tmp rfl .nil))) trivial (by rw [hres]; rfl) ?_; rw [hres]; exact gv
 refine Run.skip ?_
 refine Run.seq ?_
 refine regionD HM ?_
 refine dx [0, 1] ?_
 refine dsw 2 [true, false] ?_
 refine dsw 3 [false] ?_
 refine dx [4] ?_
 refine kd [4, 5, 6] rfl ?_
 refine Run.ret ?_
 have hres : rsStep s m = .ok _ := hst.trans (rsFin_ok (by omega) (by omega) (by first | assumption | exact (Bool.not_eq_false' _).mp (by assumption) | simp_all) (by first | assumption | exact (Bool.not_eq_false' _).mp (by assumption) | simp_all)); refine ret_out (none, 0, a35, c35) (.cellA T28 rfl pk (by rfl) (.cellA T43 rfl pk (by rfl) (.tmp rfl .nil))) trivial (by rw [hres]; first | rfl | (simp only [StV, Sk.c, List.length_set]; rfl)) ?_; rw [hres]; (try simp only [StB, List.length_set]); exact gv
theorem ac174 (s : Sk) (la : Option Addr) (lc : Nat) (pa : Option Addr) (pc : Nat) (RL : HP) (lot : ByteArray) (hRL : RdS RL la (s.layers.flatMap Ly.c)) (hnl : s.layers.length ≤ 1000000) : AC Tryz.prog 212 ⟨[.agg ⟨s.c la lc pa pc⟩, St lot]⟩ (stars [RL]) (Ret (I (idxOf (rlF lot s.layers))) [RL]) := by
 refine eo Tryz.func212 fun β => ?_
 refine sr ?_
 refine obx rfl fun b2 => ?_
 refine sx 1 ?_
 refine kq [1, 2] ?_
 refine Run.seq ?_
 refine rg 1 [1, 2, 5] ?_
 refine Run.block ?_
 refine Run.loop (fun mm E L => ∃ i : Nat, mm = s.layers.length - i ∧ i ≤ s.layers.length ∧ (∀ j y, j < i → s.layers[j]? = some y → isLot lot y = false) ∧ E = [(1, St lot), (2, .pointer (some ⟨b2, 0, none⟩)), (5, I i)] ∧ L = [pt b2 (blk (s.c la lc pa pc) 61), RL]) ⟨_, 0, rfl, Nat.zero_le _, fun _ _ h => by omega, rfl, rfl⟩ ?_
 rintro _ _ _ ⟨i, rfl, hi, hI0, rfl, rfl⟩
 refine Run.seq ?_
 refine rg 5 [1, 2, 5, 10] ?_
 refine cnd rfl (fun h1 => ?_) fun h1 => ?_
 refine Run.skip ?_
 refine Run.seq ?_
 refine Run.block ?_
 refine sr ?_
 obtain ⟨x, hx⟩ := get_ex (xs := s.layers) (by omega)
 refine RunL.rdOpen pk hRL (flat_ne (k := 4) (fun _ => rfl) (by decide) hx) fun b o e hrd => ?_
 subst e
 refine sx 5 ?_
 refine RunL.op rfl rfl (OpJ.load1 T9 rfl pk (hrd.ly hx 1 (St x.lot) rfl) ?_)
 refine sx 2 ?_
 refine kq [1, 2, 5, 20] ?_
 refine cnd rfl (fun h2 => ?_) fun h2 => ?_
 refine rg 2 [4] ?_
 refine Run.ret ?_
 exact ret_one (.tmp rfl .nil) (congrArg I (by unfold rlF; rw [findI_at hx (by unfold isLot; simp_all) hI0]; rfl)) gv
 refine Run.skip ?_
 refine Run.region ?_
 refine sx 3 ?_
 exact RunL.next (Keep.sub (kt (ks := [1, 2, 5]) rfl)) _ ⟨_, by omega, i + 1, rfl, by omega, notYet hx (by unfold isLot; simp_all) hI0, rfl, rfl⟩ gv
 refine Run.exit ?_
 refine rg 1 [4] ?_
 refine Run.ret ?_
 exact ret_one (.tmp rfl .nil) (congrArg I (by unfold rlF; rw [findI_none (fun j y hj => hI0 j y (by omega))]; rfl)) gv
theorem ac172 (s : Sk) (la : Option Addr) (lc : Nat) (pa : Option Addr) (pc : Nat) (RL : HP) (lot : ByteArray) (hRL : RdS RL la (s.layers.flatMap Ly.c)) (hnl : s.layers.length ≤ 1000000) : AC Tryz.prog 210 ⟨[.agg ⟨s.c la lc pa pc⟩, St lot]⟩ (stars [RL]) (Ret (I (rlQ s.layers lot)) [RL]) := by
 refine eo Tryz.func210 fun β => ?_
 refine sr ?_
 refine obx rfl fun b2 => ?_
 refine sx 1 ?_
 refine kq [1, 2] ?_
 refine sr ?_
 refine sx 2 ?_
 refine RunL.call C174 rfl rfl rfl (ac174 s la lc pa pc RL lot hRL hnl) tks ?_
 refine sx 1 ?_
 refine kq [2, 5] ?_
 refine Run.seq ?_
 refine sr ?_
 refine sx 2 ?_
 rcases hf : rlF lot s.layers with _ | ⟨i, x⟩
 refine kq [2, 5, 10] ?_
 refine Run.true rfl ?_
 refine rg 1 [4] ?_
 refine Run.ret ?_
 exact ret_one (.tmp rfl .nil) (congrArg I (by unfold rlQ; rw [hf])) gv
 obtain ⟨hx, _⟩ := findI_some hf
 have hi := (List.getElem?_eq_some_iff.1 hx).1
 simp only [idxOf]
 refine sF (show ¬ ((i : Int) < 0) by omega) ?_
 refine kq [2, 5, 10] ?_
 refine Run.false rfl ?_
 refine Run.skip ?_
 refine sr ?_
 refine RunL.rdOpen pk hRL (flat_ne (k := 4) (fun _ => rfl) (by decide) hx) fun b o e hrd => ?_
 subst e
 refine sx 5 ?_
 refine RunL.op rfl rfl (OpJ.load1 T3 rfl pk (hrd.ly hx 2 (I x.qty) rfl) ?_)
 refine sx 1 ?_
 refine kq [4] ?_
 refine Run.ret ?_
 exact ret_one (.tmp rfl .nil) (congrArg I (by unfold rlQ; rw [hf])) gv
theorem ac173 (s : Sk) (la : Option Addr) (lc : Nat) (pa : Option Addr) (pc : Nat) (RL : HP) (lot : ByteArray) (hRL : RdS RL la (s.layers.flatMap Ly.c)) (hnl : s.layers.length ≤ 1000000) : AC Tryz.prog 211 ⟨[.agg ⟨s.c la lc pa pc⟩, St lot]⟩ (stars [RL]) (Ret (I (rlV s.layers lot)) [RL]) := by
 refine eo Tryz.func211 fun β => ?_
 refine sr ?_
 refine obx rfl fun b2 => ?_
 refine sx 1 ?_
 refine kq [1, 2] ?_
 refine sr ?_
 refine sx 2 ?_
 refine RunL.call C174 rfl rfl rfl (ac174 s la lc pa pc RL lot hRL hnl) tks ?_
 refine sx 1 ?_
 refine kq [2, 5] ?_
 refine Run.seq ?_
 refine sr ?_
 refine sx 2 ?_
 rcases hf : rlF lot s.layers with _ | ⟨i, x⟩
 refine kq [2, 5, 10] ?_
 refine Run.true rfl ?_
 refine rg 1 [4] ?_
 refine Run.ret ?_
 exact ret_one (.tmp rfl .nil) (congrArg I (by unfold rlV; rw [hf])) gv
 obtain ⟨hx, _⟩ := findI_some hf
 have hi := (List.getElem?_eq_some_iff.1 hx).1
 simp only [idxOf]
 refine sF (show ¬ ((i : Int) < 0) by omega) ?_
 refine kq [2, 5, 10] ?_
 refine Run.false rfl ?_
 refine Run.skip ?_
 refine sr ?_
 refine RunL.rdOpen pk hRL (flat_ne (k := 4) (fun _ => rfl) (by decide) hx) fun b o e hrd => ?_
 subst e
 refine sx 5 ?_
 refine RunL.op rfl rfl (OpJ.load1 T3 rfl pk (hrd.ly hx 3 (I x.value) rfl) ?_)
 refine sx 1 ?_
 refine kq [4] ?_
 refine Run.ret ?_
 exact ret_one (.tmp rfl .nil) (congrArg I (by unfold rlV; rw [hf])) gv
theorem ac171 (s : Sk) (la : Option Addr) (lc : Nat) (pa : Option Addr) (pc : Nat) (RL : HP) (lot : ByteArray) (q v : Int) (hRL : RdS RL la (s.layers.flatMap Ly.c)) (hnl : s.layers.length ≤ 1000000) : AC Tryz.prog 209 ⟨[.agg ⟨s.c la lc pa pc⟩, St lot, I q, I v]⟩ (stars [RL]) (Outs (fun _ : Option Addr × Nat => True) (fun x => .agg ⟨SC s x.1 (putL s.layers lot q v).length x.2 pa s.past.length pc⟩) (fun x => [own 96 4 x.1 (putL s.layers lot q v).length x.2 ((putL s.layers lot q v).flatMap Ly.c), RL])) := by
 refine eo Tryz.func209 fun β => ?_
 refine sr ?_
 refine obx rfl fun b4 => ?_
 refine oal fun b8 => ?_
 refine kq [1, 2, 3, 4, 8] ?_
 refine rg 1 [1, 2, 3, 4, 8, 9] ?_
 refine rg 3 [1, 2, 3, 4, 8, 9, 10] ?_
 refine Run.seq ?_
 refine sr ?_
 refine RunL.ownNil 96 4 ?_
 refine sx 1 ?_
 refine kq [1, 2, 3, 4, 8, 9, 10, 11] ?_
 refine Run.block ?_
 refine Run.loop (fun mm E L => ∃ i : Nat, ∃ (d : Bool) (out : List Ly) (oa : Option Addr) (cap : Nat), mm = s.layers.length - i ∧ i ≤ s.layers.length ∧ putF lot ⟨0, lot, q, v⟩ (decide (q = 0), []) (s.layers.take i) = (d, out) ∧ out.length ≤ 1000001 ∧ E = [(1, St lot), (2, I q), (3, I v), (4, .pointer (some ⟨b4, 0, none⟩)), (8, .pointer (some ⟨b8, 0, none⟩)), (9, .slice oa out.length cap), (10, Bo d), (11, I i)] ∧ L = [own 96 4 oa out.length cap (out.flatMap Ly.c), pt b8 (blk [I 0, I 0, I 0, .slice none 0 0, .slice none 0 0] 61), pt b4 (blk (s.c la lc pa pc) 61), RL]) ⟨_, 0, decide (q = 0), [], none, 0, rfl, Nat.zero_le _, rfl, by decide, rfl, rfl⟩ ?_
 rintro _ _ _ ⟨i, d, out, oa, cap, rfl, hi, hA, hlo, rfl, rfl⟩
 refine Run.seq ?_
 refine rg 5 [1, 2, 3, 4, 8, 9, 10, 11, 18] ?_
 refine cnd rfl (fun h1 => ?_) fun h1 => ?_
 refine Run.skip ?_
 refine Run.seq ?_
 refine Run.block ?_
 refine Run.seq ?_
 refine sr ?_
 obtain ⟨x, hx⟩ := get_ex (xs := s.layers) (by omega)
 refine RunL.rdOpen pk hRL (flat_ne (k := 4) (fun _ => rfl) (by decide) hx) fun b o e hrd => ?_
 subst e
 refine sx 3 ?_
 refine spl 23 rfl (fun g2 => ?_) fun g2 => ?_
 refine sx 5 ?_
 refine RunL.yes rfl rfl rfl rfl (OpJ.load1 T9 rfl pk (hrd.ly hx 1 (St x.lot) rfl) ?_)
 refine sx 3 ?_
 refine kq [1, 2, 3, 4, 8, 9, 10, 11, 32] ?_
 refine cnd rfl (fun h3 => ?_) fun h3 => ?_
 refine sr ?_
 refine sx 5 ?_
 refine RunL.op rfl rfl (OpJ.buildSlice1 S25 rfl rfl rfl (by decide) (by decide) Z64 rfl fun b38 => ?_)
 refine RunL.op rfl rfl (OpJ.append1 (⟨0, lot, q, v⟩ : Ly) S25 M64 rfl rfl pk pk rfl rfl (by simp [Value.oneCell', Pa.c, Ly.c, Mv.c, Co.c]) rfl (by omega) (by omega) fun a39 c39 => ?_)
 have hl2 : (out ++ [(⟨0, lot, q, v⟩ : Ly)]).length = out.length + 1 := by simp
 refine sx 1 ?_
 refine kq [1, 2, 3, 4, 8, 9, 11] ?_
 refine Run.region ?_
 refine sx 1 ?_
 refine kq [1, 2, 3, 4, 8, 9, 10, 11] ?_
 refine sr ?_
 refine sx 5 ?_
 refine RunL.op rfl rfl (OpJ.load1 T9 rfl pk (hrd.ly hx 1 (St x.lot) rfl) ?_)
 refine sx 2 ?_
 refine kq [1, 2, 3, 4, 8, 9, 10, 11, 47] ?_
 refine cnd rfl (fun h4 => ?_) fun h4 => ?_
 refine Run.region ?_
 refine sx 5 ?_
 refine RunL.op rfl rfl (OpJ.loadA T64 rfl pk (hrd.elem (fun _ => rfl) hx) rfl ?_)
 refine RunL.op rfl rfl (OpJ.buildSlice1 S25 rfl rfl rfl (by decide) (by decide) Z64 rfl fun b54 => ?_)
 refine RunL.op rfl rfl (OpJ.append1 x S25 M64 rfl rfl pk pk rfl rfl (by simp [Value.oneCell', Pa.c, Ly.c, Mv.c, Co.c]) rfl (by omega) (by omega) fun a55 c55 => ?_)
 refine sx 1 ?_
 refine kq [1, 2, 3, 4, 8, 9, 10, 11] ?_
 refine Run.region ?_
 refine sx 3 ?_
 have hA2 := putF_succ (lot := lot) (x := ⟨0, lot, q, v⟩) (a := (decide (q = 0), [])) hx; rw [hA] at hA2; exact RunL.next (Keep.sub (kt (ks := [1, 2, 3, 4, 8, 9, 10, 11]) rfl)) _ ⟨_, by omega, i + 1, _, _, _, _, rfl, by omega, hA2.trans (by simp [putS, *]; done), (by have := @putF_le lot ⟨0, lot, q, v⟩ (decide (q = 0)) s.layers (i + 1) hnl; rw [hA2] at this; refine Nat.le_trans (Nat.le_of_eq ?_) this; simp [putS, *]), rfl, rfl⟩ gv
 refine Run.skip ?_
 refine Run.region ?_
 refine sx 3 ?_
 have hA2 := putF_succ (lot := lot) (x := ⟨0, lot, q, v⟩) (a := (decide (q = 0), [])) hx; rw [hA] at hA2; exact RunL.next (Keep.sub (kt (ks := [1, 2, 3, 4, 8, 9, 10, 11]) rfl)) _ ⟨_, by omega, i + 1, _, _, _, _, rfl, by omega, hA2.trans (by simp [putS, *]; done), (by have := @putF_le lot ⟨0, lot, q, v⟩ (decide (q = 0)) s.layers (i + 1) hnl; rw [hA2] at this; refine Nat.le_trans (Nat.le_of_eq ?_) this; simp [putS, *]), rfl, rfl⟩ gv
 refine Run.skip ?_
 refine sr ?_
 refine sx 5 ?_
 refine RunL.op rfl rfl (OpJ.load1 T9 rfl pk (hrd.ly hx 1 (St x.lot) rfl) ?_)
 refine sx 2 ?_
 refine kq [1, 2, 3, 4, 8, 9, 10, 11, 47] ?_
 refine cnd rfl (fun h5 => ?_) fun h5 => ?_
 refine Run.region ?_
 refine sx 5 ?_
 refine RunL.op rfl rfl (OpJ.loadA T64 rfl pk (hrd.elem (fun _ => rfl) hx) rfl ?_)
 refine RunL.op rfl rfl (OpJ.buildSlice1 S25 rfl rfl rfl (by decide) (by decide) Z64 rfl fun b54 => ?_)
 refine RunL.op rfl rfl (OpJ.append1 x S25 M64 rfl rfl pk pk rfl rfl (by simp [Value.oneCell', Pa.c, Ly.c, Mv.c, Co.c]) rfl (by omega) (by omega) fun a55 c55 => ?_)
 refine sx 1 ?_
 refine kq [1, 2, 3, 4, 8, 9, 10, 11] ?_
 refine Run.region ?_
 refine sx 3 ?_
 have hA2 := putF_succ (lot := lot) (x := ⟨0, lot, q, v⟩) (a := (decide (q = 0), [])) hx; rw [hA] at hA2; exact RunL.next (Keep.sub (kt (ks := [1, 2, 3, 4, 8, 9, 10, 11]) rfl)) _ ⟨_, by omega, i + 1, _, _, _, _, rfl, by omega, hA2.trans (by simp [putS, *]; done), (by have := @putF_le lot ⟨0, lot, q, v⟩ (decide (q = 0)) s.layers (i + 1) hnl; rw [hA2] at this; refine Nat.le_trans (Nat.le_of_eq ?_) this; simp [putS, *]), rfl, rfl⟩ gv
 refine Run.skip ?_
 refine Run.region ?_
 refine sx 3 ?_
 have hA2 := putF_succ (lot := lot) (x := ⟨0, lot, q, v⟩) (a := (decide (q = 0), [])) hx; rw [hA] at hA2; exact RunL.next (Keep.sub (kt (ks := [1, 2, 3, 4, 8, 9, 10, 11]) rfl)) _ ⟨_, by omega, i + 1, _, _, _, _, rfl, by omega, hA2.trans (by simp [putS, *]; done), (by have := @putF_le lot ⟨0, lot, q, v⟩ (decide (q = 0)) s.layers (i + 1) hnl; rw [hA2] at this; refine Nat.le_trans (Nat.le_of_eq ?_) this; simp [putS, *]), rfl, rfl⟩ gv
 refine sx 9 ?_
 refine kq [1, 2, 3, 4, 8, 9, 10, 11, 32] ?_
 refine Run.false rfl ?_
 refine Run.skip ?_
 refine sr ?_
 refine sx 5 ?_
 refine RunL.op rfl rfl (OpJ.load1 T9 rfl pk (hrd.ly hx 1 (St x.lot) rfl) ?_)
 refine sx 2 ?_
 refine kq [1, 2, 3, 4, 8, 9, 10, 11, 47] ?_
 refine cnd rfl (fun h6 => ?_) fun h6 => ?_
 refine Run.region ?_
 refine sx 5 ?_
 refine RunL.op rfl rfl (OpJ.loadA T64 rfl pk (hrd.elem (fun _ => rfl) hx) rfl ?_)
 refine RunL.op rfl rfl (OpJ.buildSlice1 S25 rfl rfl rfl (by decide) (by decide) Z64 rfl fun b54 => ?_)
 refine RunL.op rfl rfl (OpJ.append1 x S25 M64 rfl rfl pk pk rfl rfl (by simp [Value.oneCell', Pa.c, Ly.c, Mv.c, Co.c]) rfl (by omega) (by omega) fun a55 c55 => ?_)
 refine sx 1 ?_
 refine kq [1, 2, 3, 4, 8, 9, 10, 11] ?_
 refine Run.region ?_
 refine sx 3 ?_
 have hA2 := putF_succ (lot := lot) (x := ⟨0, lot, q, v⟩) (a := (decide (q = 0), [])) hx; rw [hA] at hA2; exact RunL.next (Keep.sub (kt (ks := [1, 2, 3, 4, 8, 9, 10, 11]) rfl)) _ ⟨_, by omega, i + 1, _, _, _, _, rfl, by omega, hA2.trans (by simp [putS, *]; done), (by have := @putF_le lot ⟨0, lot, q, v⟩ (decide (q = 0)) s.layers (i + 1) hnl; rw [hA2] at this; refine Nat.le_trans (Nat.le_of_eq ?_) this; simp [putS, *]), rfl, rfl⟩ gv
 refine Run.skip ?_
 refine Run.region ?_
 refine sx 3 ?_
 have hA2 := putF_succ (lot := lot) (x := ⟨0, lot, q, v⟩) (a := (decide (q = 0), [])) hx; rw [hA] at hA2; exact RunL.next (Keep.sub (kt (ks := [1, 2, 3, 4, 8, 9, 10, 11]) rfl)) _ ⟨_, by omega, i + 1, _, _, _, _, rfl, by omega, hA2.trans (by simp [putS, *]; done), (by have := @putF_le lot ⟨0, lot, q, v⟩ (decide (q = 0)) s.layers (i + 1) hnl; rw [hA2] at this; refine Nat.le_trans (Nat.le_of_eq ?_) this; simp [putS, *]), rfl, rfl⟩ gv
 refine Run.exit ?_
 refine Run.seq ?_
 refine sr ?_
 obtain rfl : i = s.layers.length := by omega
 rw [List.take_length] at hA
 refine sx 2 ?_
 refine kq [1, 2, 3, 4, 8, 9, 57] ?_
 refine cnd rfl (fun h7 => ?_) fun h7 => ?_
 refine Run.region ?_
 refine sx 5 ?_
 refine RunL.op rfl rfl (OpJ.buildSlice1 S25 rfl rfl rfl (by decide) (by decide) Z64 rfl fun b63 => ?_)
 refine RunL.op rfl rfl (OpJ.append1 (⟨0, lot, q, v⟩ : Ly) S25 M64 rfl rfl pk pk rfl rfl (by simp [Value.oneCell', Pa.c, Ly.c, Mv.c, Co.c]) rfl (by omega) (by omega) fun a64 c64 => ?_)
 refine sx 1 ?_
 refine kq [4, 8, 9] ?_
 refine rg 3 [4, 8] ?_
 refine rg 2 [8] ?_
 refine Run.ret ?_
 have hp : putL s.layers lot q v = out ++ [(⟨0, lot, q, v⟩ : Ly)] := (by unfold putL putE; rw [hA]; simp_all); rw [hp]; exact ret_out (a64, c64) (.cellA T28 rfl pk (by rfl) .nil) trivial rfl gv
 refine Run.skip ?_
 refine rg 3 [4, 8] ?_
 refine rg 2 [8] ?_
 refine Run.ret ?_
 have hp : putL s.layers lot q v = out := (by unfold putL putE; rw [hA]; simp_all); rw [hp]; exact ret_out (oa, cap) (.cellA T28 rfl pk (by rfl) .nil) trivial rfl gv
theorem ac142 (t : Sk) (la : Option Addr) (lc : Nat) (pa : Option Addr) (pc : Nat) (RL : HP) (lot : ByteArray) (q v : Int) (hRL : RdS RL la (t.layers.flatMap Ly.c)) (hnl : t.layers.length ≤ 1000000) : AC Tryz.prog 186 ⟨[.agg ⟨t.c la lc pa pc⟩, St lot, I q, I v]⟩ (stars [RL]) (Outs (fun _ : Option Addr × Nat => True) (fun x => .agg ⟨SC t x.1 (addL t.layers lot q v).length x.2 pa t.past.length pc⟩) (fun x => [own 96 4 x.1 (addL t.layers lot q v).length x.2 ((addL t.layers lot q v).flatMap Ly.c), RL])) := by
 refine eo Tryz.func186 fun β => ?_
 refine sr ?_
 refine obx rfl fun b4 => ?_
 refine oal fun b8 => ?_
 refine kq [1, 2, 3, 4, 8] ?_
 refine Run.seq ?_
 refine regionD HM ?_
 refine dx [0, 1, 2, 3, 5, 7, 8, 10] ?_
 refine RunD.op 4 [true, true, true, true, false, false, true, true] rfl rfl rfl kr kr (OpJ.callRet C172 rfl rfl (ac172 t la lc pa pc RL lot hRL hnl) tks ⟨po, ?_⟩)
 refine tk 6 rfl rfl rfl (DetJ.add rfl rfl) ?_
 refine RunD.op 9 [true, true, false, false, true, true, true] rfl rfl rfl kr kr (OpJ.callRet C173 rfl rfl (ac173 t la lc pa pc RL lot hRL hnl) tks ⟨po, ?_⟩)
 refine tk 11 rfl rfl rfl (DetJ.add rfl rfl) ?_
 refine RunD.op 12 [false, false, false, false, false, false] rfl rfl rfl kr kr (OpJ.callOuts C171 rfl rfl (ac171 t la lc pa pc RL lot _ _ hRL hnl) tks fun ⟨a21, c21⟩ _ => ⟨po, ?_⟩)
 refine dsw 13 [] ?_
 refine kd [8] rfl ?_
 refine Run.ret ?_
 unfold addL; exact ret_out (a21, c21) (.cellA T28 rfl pk (by rfl) .nil) trivial rfl gv
theorem ac143 (t : Sk) (m : Mv) (la : Option Addr) (lc : Nat) (pa : Option Addr) (pc : Nat) (ht : t.ok 999999) (hm : m.ok) : AC Tryz.prog 187 ⟨[.agg ⟨t.c la lc pa pc⟩, .agg ⟨m.c⟩]⟩ (stars [own 96 4 la (t.layers).length lc ((t.layers).flatMap Ly.c), own 98 7 pa (t.past).length pc ((t.past).flatMap Pa.c)]) (Outs (fun _ : Option Addr × Nat × Option Addr × Nat => True) (fun x => RmV t la lc pa pc (rlIssue t m) x) (fun x => StB 96 98 (rlIssue t m) x)) := by
 have hn : t.layers.length ≤ 1000000 ∧ t.past.length ≤ 1000000 := ⟨Nat.le_trans ht.nl (by decide), Nat.le_trans ht.np (by decide)⟩
 have hnl := ht.nl; have hnp := ht.np
 obtain ⟨hm1, hm2⟩ := hm
 refine eo Tryz.func187 fun β => ?_
 refine sr ?_
 refine obx rfl fun b2 => ?_
 refine obx rfl fun b3 => ?_
 refine oal fun b4 => ?_
 refine oal fun b5 => ?_
 refine sx 1 ?_
 refine kq [2, 3, 4, 5] ?_
 refine Run.seq ?_
 refine sr ?_
 refine sx 4 ?_
 refine spl 11 rfl (fun g1 => ?_) fun g1 => ?_
 refine sx 6 ?_
 refine kq [2, 3, 4, 5, 17] ?_
 refine Run.true rfl ?_
 refine rg 5 [4, 5, 6] ?_
 refine Run.ret ?_
 have hres : rlIssue t m = .error 22 := (by unfold rlIssue; rw [if_pos (by assumption)]); refine ret_out (none, 0, none, 0) (.cellA T28 rfl pk (by rfl) (.cellA T43 rfl pk (by rfl) (.tmp rfl .nil))) trivial (by rw [hres]; rfl) ?_; rw [hres]; exact gv
 refine sx 3 ?_
 refine RunL.callG C174 rfl rfl rfl rfl rfl (ac174 t la lc pa pc (own 96 4 la (t.layers).length lc ((t.layers).flatMap Ly.c)) m.lot own.rds hn.1) tks ?_
 refine sx 2 ?_
 refine kq [2, 3, 4, 5, 17] ?_
 refine cnd rfl (fun h2 => ?_) fun h2 => ?_
 refine rg 5 [4, 5, 6] ?_
 refine Run.ret ?_
 have hres : rlIssue t m = .error 22 := (by unfold rlIssue; rw [if_neg (by assumption), if_pos (by assumption)]); refine ret_out (none, 0, none, 0) (.cellA T28 rfl pk (by rfl) (.cellA T43 rfl pk (by rfl) (.tmp rfl .nil))) trivial (by rw [hres]; rfl) ?_; rw [hres]; exact gv
 refine Run.skip ?_
 refine Run.seq ?_
 refine Run.seq ?_
 refine regionD HM ?_
 refine dx [0, 1, 2, 4, 5] ?_
 refine RunD.op 3 [true, true, false, false, false] rfl rfl rfl kr kr (OpJ.callRet C172 rfl rfl (ac172 t la lc _ pc (own 96 4 la (t.layers).length lc ((t.layers).flatMap Ly.c)) m.lot own.rds hn.1) tks ⟨po, ?_⟩)
 refine dx [6] ?_
 refine kd [2, 3, 4, 5, 26] rfl ?_
 refine cnd rfl (fun h3 => ?_) fun h3 => ?_
 refine rg 5 [4, 5, 6] ?_
 refine Run.ret ?_
 have hres : rlIssue t m = .error 21 := (by unfold rlIssue; rw [if_neg (by assumption), if_neg (by assumption), if_pos (by assumption)]); refine ret_out (none, 0, none, 0) (.cellA T28 rfl pk (by rfl) (.cellA T43 rfl pk (by rfl) (.tmp rfl .nil))) trivial (by rw [hres]; rfl) ?_; rw [hres]; exact gv
 refine Run.skip ?_
 refine Run.seq ?_
 refine regionD HM ?_
 refine dx [0, 1, 2, 4, 5, 6, 7, 8] ?_
 refine RunD.op 3 [true, true, true, true, true, false, false, false] rfl rfl rfl kr kr (OpJ.callRet C173 rfl rfl (ac173 t la lc _ pc (own 96 4 la (t.layers).length lc ((t.layers).flatMap Ly.c)) m.lot own.rds hn.1) tks ⟨po, ?_⟩)
 refine RunD.op 9 [false, false, false, true, true] rfl rfl rfl kr kr (OpJ.callRet C172 rfl rfl (ac172 t la lc _ pc (own 96 4 la (t.layers).length lc ((t.layers).flatMap Ly.c)) m.lot own.rds hn.1) tks ⟨po, ?_⟩)
 refine RunD.op 10 [false, false] rfl rfl rfl kr kr (OpJ.callRet C165 rfl rfl (ac165 _ _ _ (rl_i64 ht.ly m.lot).2 hm1 (rl_i64 ht.ly m.lot).1) .nil ⟨po, ?_⟩)
 refine dx [11] ?_
 refine kd [2, 3, 4, 5, 7] rfl ?_
 refine sr ?_
 refine sx 8 ?_
 refine RunL.callX C142 rfl rfl rfl (ac142 t la lc _ pc (own 96 4 la (t.layers).length lc ((t.layers).flatMap Ly.c)) m.lot _ _ own.rds hn.1) tks fun ⟨la2, lc2⟩ _ => ?_
 refine sx 1 ?_
 refine kq [2, 3, 4, 5, 7] ?_
 refine sr ?_
 refine sx 10 ?_
 refine RunL.op rfl rfl (OpJ.buildSlice1 S26 rfl rfl rfl (by decide) (by decide) Z66 rfl fun b59 => ?_)
 refine RunL.op rfl rfl (OpJ.append1 (⟨m.seq, 2, m.lot, m.qty, rlP t.layers m.lot m.qty, 0, 0⟩ : Pa) S26 M66 rfl rfl pk pk rfl rfl (by simp [Value.oneCell', Pa.c, Ly.c, Mv.c, Co.c]) rfl (by omega) (by omega) fun a60 c60 => ?_)
 refine sx 2 ?_
 refine kq [2, 3, 4, 5, 7] ?_
 refine Run.seq ?_
 refine regionD HM ?_
 refine dx [0, 1, 2, 3, 4, 5, 6] ?_
 refine dsw 7 [true, true, true, true, true, true, false] ?_
 refine dsw 8 [false, false, false, false, false, false] ?_
 refine dx [9] ?_
 refine kd [4, 5, 6] rfl ?_
 refine Run.ret ?_
 have hres : rlIssue t m = .ok _ := (by unfold rlIssue; rw [if_neg (by assumption), if_neg (by assumption), if_neg (by assumption)]); refine ret_out (la2, lc2, a60, c60) (.cellA T28 rfl pk (by rfl) (.cellA T43 rfl pk (by rfl) (.tmp rfl .nil))) trivial (by rw [hres]; simp only [RmV, RmS, Sk.c, List.length_set]; rfl) ?_; rw [hres]; simp only [StB, List.length_set, List.length_append]; exact gv
theorem ac144 (t : Sk) (m : Mv) (la : Option Addr) (lc : Nat) (pa : Option Addr) (pc : Nat) (ht : t.ok 999999) (hm : m.ok) (hk : m.kind = 3) : AC Tryz.prog 188 ⟨[.agg ⟨t.c la lc pa pc⟩, .agg ⟨m.c⟩]⟩ (stars [own 96 4 la (t.layers).length lc ((t.layers).flatMap Ly.c), own 98 7 pa (t.past).length pc ((t.past).flatMap Pa.c)]) (Outs (fun _ : Option Addr × Nat × Option Addr × Nat => True) (fun x => RmV t la lc pa pc (rlBack t m) x) (fun x => StB 96 98 (rlBack t m) x)) := by
 have hn : t.layers.length ≤ 1000000 ∧ t.past.length ≤ 1000000 := ⟨Nat.le_trans ht.nl (by decide), Nat.le_trans ht.np (by decide)⟩
 have hnl := ht.nl; have hnp := ht.np
 obtain ⟨hm1, hm2⟩ := hm
 refine eo Tryz.func188 fun β => ?_
 refine sr ?_
 refine obx rfl fun b2 => ?_
 refine obx rfl fun b3 => ?_
 refine oal fun b4 => ?_
 refine oal fun b5 => ?_
 refine sx 1 ?_
 refine kq [2, 3, 4, 5] ?_
 refine sr ?_
 refine sx 2 ?_
 refine RunL.call C162 rfl rfl rfl (ac162k t la lc pa pc (own 98 7 pa (t.past).length pc ((t.past).flatMap Pa.c)) m 2 (by rw [hk]; decide) own.rds hn.2) tks ?_
 refine sx 5 ?_
 refine kq [2, 3, 4, 5, 7, 8] ?_
 refine Run.seq ?_
 refine rg 2 [2, 3, 4, 5, 7, 8, 17] ?_
 refine cnd rfl (fun h1 => ?_) fun h1 => ?_
 refine sr ?_
 obtain ⟨e, he⟩ := errOf_ne h1
 refine sx 6 ?_
 refine kq [4, 5, 6] ?_
 refine Run.ret ?_
 have hres : rlBack t m = .error e := (by unfold rlBack; rw [he]); rw [he]; refine ret_out (none, 0, none, 0) (.cellA T28 rfl pk (by rfl) (.cellA T43 rfl pk (by rfl) (.tmp rfl .nil))) trivial (by rw [hres]; rfl) ?_; rw [hres]; exact gv
 refine Run.skip ?_
 refine Run.seq ?_
 refine regionD HM ?_
 obtain ⟨i, p, hr, hx⟩ := refd_ok (Decidable.not_not.1 h1)
 rw [hr]
 have hi := (List.getElem?_eq_some_iff.1 hx).1
 obtain ⟨hp1, hp2, hp3, hp4⟩ := ht.pa i p hx
 refine RunD.ownAddr pk (flat_ne (k := 7) (fun _ => rfl) (by decide) hx) fun b e hcap => ?_
 subst e
 simp only [okIdx]
 refine dx [0, 1, 2, 3, 4, 5, 6] ?_
 refine RunD.op 7 [false, false, false, false, false, false, true] rfl rfl rfl kr kr (OpJ.callRet C163 rfl rfl (ac163 p m hm1) .nil ⟨po, ?_⟩)
 refine dx [8] ?_
 refine kd [2, 3, 4, 5, 7, 9] rfl ?_
 refine Run.seq ?_
 refine regionD HM ?_
 refine dx [0, 1, 2, 3, 4, 5, 6, 7, 8, 9, 10] ?_
 refine tk 11 rfl rfl rfl (DetJ.add rfl rfl) ?_
 refine dx [12, 13] ?_
 refine RunD.op 14 [false, false, false, false, false, false, false, false, false, false, false, false, false, false] rfl rfl rfl kr kr (OpJ.storeO (i := i) (u' := sendP p m) T3 rfl rfl rfl hx (fun _ => rfl) (by decide) rfl up ⟨po, ?_⟩)
 refine kd [2, 3, 4, 5, 7, 9] rfl ?_
 refine Run.seq ?_
 refine regionD HM ?_
 have hx1 := set_get hx (sendP p m)
 refine dx [0, 1, 2, 3, 4, 5, 6, 7, 8, 9] ?_
 refine tk 10 rfl rfl rfl (DetJ.add rfl rfl) ?_
 refine dx [11, 12] ?_
 refine RunD.op 13 [false, false, false, false, false, false, false, false, false, false, false, false, false] rfl rfl rfl kr kr (OpJ.storeO (i := i) (u' := backP p m) T3 rfl rfl rfl hx1 (fun _ => rfl) (by decide) rfl up ⟨po, ?_⟩)
 rw [List.set_set]
 refine kd [2, 3, 4, 5, 7, 9] rfl ?_
 refine Run.seq ?_
 refine regionD HM ?_
 have hx2 := set_get hx (backP p m)
 refine dx [0, 1, 2, 3, 4, 5, 6, 7, 8, 9, 11, 12, 13, 14] ?_
 refine RunD.op 10 [true, true, true, true, false, false, false, false, false, false, true, true, true, false] rfl rfl rfl kr kr (OpJ.callOuts C142 rfl rfl (ac142 t la lc _ pc (own 96 4 la (t.layers).length lc ((t.layers).flatMap Ly.c)) p.lot m.qty (backV p m) own.rds hn.1) tks fun ⟨la2, lc2⟩ _ => ⟨po, ?_⟩)
 refine dsw 15 [true, true, true, true, false, false, false] ?_
 refine dsw 16 [false, false, false, false] ?_
 refine dx [17] ?_
 refine kd [4, 5, 6] rfl ?_
 refine Run.ret ?_
 have hres : rlBack t m = .ok _ := (by unfold rlBack; rw [hr]); refine ret_out (la2, lc2, (some ⟨b, 0, none⟩), pc) (.cellA T28 rfl pk (by rfl) (.cellA T43 rfl pk (by rfl) (.tmp rfl .nil))) trivial (by rw [hres]; simp only [RmV, RmS, Sk.c, List.length_set]; rfl) ?_; rw [hres]; simp only [StB, List.length_set, List.length_append]; exact gv
theorem ac145 (t : Sk) (m : Mv) (la : Option Addr) (lc : Nat) (pa : Option Addr) (pc : Nat) (ht : t.ok 999999) (hm : m.ok) (hk : m.kind = 4) : AC Tryz.prog 189 ⟨[.agg ⟨t.c la lc pa pc⟩, .agg ⟨m.c⟩]⟩ (stars [own 96 4 la (t.layers).length lc ((t.layers).flatMap Ly.c), own 98 7 pa (t.past).length pc ((t.past).flatMap Pa.c)]) (Outs (fun _ : Option Addr × Nat × Option Addr × Nat => True) (fun x => RmV t la lc pa pc (rlSend t m) x) (fun x => StB 96 98 (rlSend t m) x)) := by
 have hn : t.layers.length ≤ 1000000 ∧ t.past.length ≤ 1000000 := ⟨Nat.le_trans ht.nl (by decide), Nat.le_trans ht.np (by decide)⟩
 have hnl := ht.nl; have hnp := ht.np
 obtain ⟨hm1, hm2⟩ := hm
 refine eo Tryz.func189 fun β => ?_
 refine sr ?_
 refine obx rfl fun b2 => ?_
 refine obx rfl fun b3 => ?_
 refine oal fun b4 => ?_
 refine oal fun b5 => ?_
 refine sx 1 ?_
 refine kq [2, 3, 4, 5] ?_
 refine sr ?_
 refine sx 2 ?_
 refine RunL.call C162 rfl rfl rfl (ac162k t la lc pa pc (own 98 7 pa (t.past).length pc ((t.past).flatMap Pa.c)) m 1 (by rw [hk]; decide) own.rds hn.2) tks ?_
 refine sx 5 ?_
 refine kq [2, 3, 4, 5, 7, 8] ?_
 refine Run.seq ?_
 refine rg 2 [2, 3, 4, 5, 7, 8, 18] ?_
 refine cnd rfl (fun h1 => ?_) fun h1 => ?_
 refine sr ?_
 obtain ⟨e, he⟩ := errOf_ne h1
 refine sx 6 ?_
 refine kq [4, 5, 6] ?_
 refine Run.ret ?_
 have hres : rlSend t m = .error e := (by unfold rlSend; rw [he]); rw [he]; refine ret_out (none, 0, none, 0) (.cellA T28 rfl pk (by rfl) (.cellA T43 rfl pk (by rfl) (.tmp rfl .nil))) trivial (by rw [hres]; rfl) ?_; rw [hres]; exact gv
 refine Run.skip ?_
 refine sr ?_
 obtain ⟨i, p, hr, hx⟩ := refd_ok (Decidable.not_not.1 h1)
 rw [hr]
 have hi := (List.getElem?_eq_some_iff.1 hx).1
 obtain ⟨hp1, hp2, hp3, hp4⟩ := ht.pa i p hx
 refine RunL.ownAddr pk (flat_ne (k := 7) (fun _ => rfl) (by decide) hx) fun b e hcap => ?_
 subst e
 simp only [okIdx]
 refine sx 7 ?_
 refine kq [2, 3, 4, 5, 7, 9] ?_
 refine Run.seq ?_
 refine Run.seq ?_
 refine regionD HM ?_
 refine dx [0, 1, 3, 4] ?_
 refine RunD.op 2 [true, true, false, false] rfl rfl rfl kr kr (OpJ.callRet C172 rfl rfl (ac172 t la lc _ pc (own 96 4 la (t.layers).length lc ((t.layers).flatMap Ly.c)) p.lot own.rds hn.1) tks ⟨po, ?_⟩)
 refine dx [5] ?_
 refine kd [2, 3, 4, 5, 7, 9, 33] rfl ?_
 refine cnd rfl (fun h2 => ?_) fun h2 => ?_
 refine rg 5 [4, 5, 6] ?_
 refine Run.ret ?_
 have hres : rlSend t m = .error 21 := (by unfold rlSend; rw [hr]; simp only; rw [if_pos (by assumption)]); refine ret_out (none, 0, none, 0) (.cellA T28 rfl pk (by rfl) (.cellA T43 rfl pk (by rfl) (.tmp rfl .nil))) trivial (by rw [hres]; rfl) ?_; rw [hres]; exact gv
 refine Run.skip ?_
 refine Run.seq ?_
 refine regionD HM ?_
 refine dx [0, 1, 3, 4, 5, 6] ?_
 refine RunD.op 2 [true, true, true, true, false, false] rfl rfl rfl kr kr (OpJ.callRet C173 rfl rfl (ac173 t la lc _ pc (own 96 4 la (t.layers).length lc ((t.layers).flatMap Ly.c)) p.lot own.rds hn.1) tks ⟨po, ?_⟩)
 refine RunD.op 7 [false, false, true, true] rfl rfl rfl kr kr (OpJ.callRet C172 rfl rfl (ac172 t la lc _ pc (own 96 4 la (t.layers).length lc ((t.layers).flatMap Ly.c)) p.lot own.rds hn.1) tks ⟨po, ?_⟩)
 refine RunD.op 8 [false, false] rfl rfl rfl kr kr (OpJ.callRet C165 rfl rfl (ac165 _ _ _ (rl_i64 ht.ly p.lot).2 hm1 (rl_i64 ht.ly p.lot).1) .nil ⟨po, ?_⟩)
 refine dx [9] ?_
 refine kd [2, 3, 4, 5, 7, 9, 10] rfl ?_
 refine Run.seq ?_
 refine regionD HM ?_
 refine dx [0, 1, 2, 3, 4, 5, 6, 7, 8, 9, 10] ?_
 refine tk 11 rfl rfl rfl (DetJ.add rfl rfl) ?_
 refine dx [12, 13] ?_
 refine RunD.op 14 [false, false, false, false, false, false, false, false, false, false, false, false, false, false] rfl rfl rfl kr kr (OpJ.storeO (i := i) (u' := sendP p m) T3 rfl rfl rfl hx (fun _ => rfl) (by decide) rfl up ⟨po, ?_⟩)
 refine kd [2, 3, 4, 5, 9, 10] rfl ?_
 refine Run.seq ?_
 refine regionD HM ?_
 refine dx [0, 1, 2, 3, 4, 5, 6, 8, 9, 10, 11, 12, 13, 14, 15] ?_
 refine tk 16 rfl rfl rfl (DetJ.sub rfl rfl) ?_
 refine dx [17] ?_
 refine RunD.op 7 [true, true, true, true, true, true, true, true, true, true, false, false, false, false, false, false, false] rfl rfl rfl kr kr (OpJ.callOuts C142 rfl rfl (ac142 t la lc _ pc (own 96 4 la (t.layers).length lc ((t.layers).flatMap Ly.c)) p.lot _ _ own.rds hn.1) tks fun ⟨la2, lc2⟩ _ => ⟨po, ?_⟩)
 refine dsw 18 [true, true, true, true, true, true, true, true, true, true] ?_
 refine dsw 19 [false, false, false, false, false, false, false, false, false, false] ?_
 refine dx [20] ?_
 refine kd [4, 5, 6] rfl ?_
 refine Run.ret ?_
 have hres : rlSend t m = .ok _ := (by unfold rlSend; rw [hr]; simp only; rw [if_neg (by assumption)]); refine ret_out (la2, lc2, (some ⟨b, 0, none⟩), pc) (.cellA T28 rfl pk (by rfl) (.cellA T43 rfl pk (by rfl) (.tmp rfl .nil))) trivial (by rw [hres]; simp only [RmV, RmS, Sk.c, List.length_set]; rfl) ?_; rw [hres]; simp only [StB, List.length_set, List.length_append]; exact gv
theorem ac146 (t : Sk) (m : Mv) (la : Option Addr) (lc : Nat) (pa : Option Addr) (pc : Nat) (ht : t.ok 999999) (hm : m.ok) : AC Tryz.prog 190 ⟨[.agg ⟨t.c la lc pa pc⟩, .agg ⟨m.c⟩]⟩ (stars [own 96 4 la (t.layers).length lc ((t.layers).flatMap Ly.c), own 98 7 pa (t.past).length pc ((t.past).flatMap Pa.c)]) (Outs (fun _ : Option Addr × Nat × Option Addr × Nat => True) (fun x => RmV t la lc pa pc (rlLand t m) x) (fun x => StB 96 98 (rlLand t m) x)) := by
 have hn : t.layers.length ≤ 1000000 ∧ t.past.length ≤ 1000000 := ⟨Nat.le_trans ht.nl (by decide), Nat.le_trans ht.np (by decide)⟩
 have hnl := ht.nl; have hnp := ht.np
 obtain ⟨hm1, hm2⟩ := hm
 refine eo Tryz.func190 fun β => ?_
 refine sr ?_
 refine obx rfl fun b2 => ?_
 refine obx rfl fun b3 => ?_
 refine oal fun b4 => ?_
 refine oal fun b5 => ?_
 refine sx 1 ?_
 refine kq [2, 3, 4, 5] ?_
 refine sr ?_
 refine sx 3 ?_
 refine RunL.call C132 rfl rfl rfl (ac132 t la lc pa pc (own 98 7 pa (t.past).length pc ((t.past).flatMap Pa.c)) 1 m.ref (by decide) own.rds hn.2) tks ?_
 refine sx 1 ?_
 rcases hf1 : findI (isPast 1 m.ref) t.past with _ | ⟨i, p⟩
 refine kq [2, 3, 4, 5, 7] ?_
 refine Run.seq ?_
 refine sr ?_
 refine sx 2 ?_
 first | refine RunL.set (congrArg Value.bool (decide_eq_false (show ¬ ((i : Int) < 0) by omega))) ?_ | skip
 refine kq [2, 3, 4, 5, 7, 17] ?_
 refine Run.true rfl ?_
 refine rg 5 [4, 5, 6] ?_
 refine Run.ret ?_
 have hres : rlLand t m = .error 28 := (by unfold rlLand; rw [hf1]); refine ret_out (none, 0, none, 0) (.cellA T28 rfl pk (by rfl) (.cellA T43 rfl pk (by rfl) (.tmp rfl .nil))) trivial (by rw [hres]; rfl) ?_; rw [hres]; exact gv
 obtain ⟨hx, _⟩ := findI_some hf1
 have hi := (List.getElem?_eq_some_iff.1 hx).1
 obtain ⟨hp1, hp2, hp3, hp4⟩ := ht.pa i p hx
 refine RunL.ownAddr pk (flat_ne (k := 7) (fun _ => rfl) (by decide) hx) fun b e hcap => ?_
 subst e
 simp only [idxOf]
 refine kq [2, 3, 4, 5, 7] ?_
 refine Run.seq ?_
 refine sr ?_
 refine sx 2 ?_
 first | refine RunL.set (congrArg Value.bool (decide_eq_false (show ¬ ((i : Int) < 0) by omega))) ?_ | skip
 refine kq [2, 3, 4, 5, 7, 17] ?_
 refine Run.false rfl ?_
 refine Run.skip ?_
 refine Run.seq ?_
 refine regionD HM ?_
 refine dx [0, 1, 2, 3, 4, 5, 6, 7, 8, 9, 10, 11, 12, 13] ?_
 refine kd [2, 3, 4, 5, 8, 9] rfl ?_
 refine sr ?_
 refine sx 3 ?_
 refine RunL.call C172 rfl rfl rfl (ac172 t la lc _ pc (own 96 4 la (t.layers).length lc ((t.layers).flatMap Ly.c)) p.lot own.rds hn.1) tks ?_
 refine sx 1 ?_
 refine RunL.set (show _ = I (rlMin t p) from rfl) ?_
 refine sx 1 ?_
 refine kq [2, 3, 4, 5, 8, 9, 10] ?_
 refine Run.seq ?_
 refine rg 2 [2, 3, 4, 5, 8, 9, 10, 38] ?_
 refine cnd rfl (fun h1 => ?_) fun h1 => ?_
 refine Run.seq ?_
 refine regionD HM ?_
 refine dx [0, 1, 2, 3] ?_
 refine dsw 4 [true, true, true, false] ?_
 refine dsw 5 [false, false, false] ?_
 refine dx [6] ?_
 refine kd [4, 5, 6] rfl ?_
 refine Run.ret ?_
 have hres : rlLand t m = .ok _ := (by unfold rlLand; rw [hf1]; simp only; rw [if_pos (by assumption)]); refine ret_out (la, lc, (some ⟨b, 0, none⟩), pc) (.cellA T28 rfl pk (by rfl) (.cellA T43 rfl pk (by rfl) (.tmp rfl .nil))) trivial (by rw [hres]; simp only [RmV, RmS, Sk.c, List.length_set]; rfl) ?_; rw [hres]; simp only [StB, List.length_set, List.length_append]; exact gv
 refine Run.skip ?_
 refine sr ?_
 refine sx 4 ?_
 refine RunL.call C165 rfl rfl rfl (ac165 _ _ _ hm2 (rlMin_i64 ht.ly hp1) hp1) .nil ?_
 refine sx 1 ?_
 refine kq [2, 3, 4, 5, 8, 11] ?_
 refine Run.seq ?_
 refine regionD HM ?_
 refine dx [0, 1, 2, 4, 5, 6, 7] ?_
 refine tk 8 rfl rfl rfl (DetJ.sub rfl rfl) ?_
 refine dx [9] ?_
 refine RunD.op 3 [true, true, true, true, true, true, false, false, false] rfl rfl rfl kr kr (OpJ.callOuts C142 rfl rfl (ac142 t la lc _ pc (own 96 4 la (t.layers).length lc ((t.layers).flatMap Ly.c)) p.lot 0 _ own.rds hn.1) tks fun ⟨la2, lc2⟩ _ => ⟨po, ?_⟩)
 refine dsw 10 [true, true, true, true, true, true] ?_
 refine dsw 11 [false, false, false, false, false, false] ?_
 refine dx [12] ?_
 refine kd [4, 5, 6] rfl ?_
 refine Run.ret ?_
 have hres : rlLand t m = .ok _ := (by unfold rlLand; rw [hf1]; simp only; rw [if_neg (by assumption)]); refine ret_out (la2, lc2, (some ⟨b, 0, none⟩), pc) (.cellA T28 rfl pk (by rfl) (.cellA T43 rfl pk (by rfl) (.tmp rfl .nil))) trivial (by rw [hres]; simp only [RmV, RmS, Sk.c, List.length_set]; rfl) ?_; rw [hres]; simp only [StB, List.length_set, List.length_append]; exact gv
end
end Go.Proofs.YtcpghpifbgpkjaaGreatDoor

namespace Go.Proofs.YtcpghpifbgpkjaaGreatDoor
open Go Go.SL Go.Proofs
theorem acl2 (t : Sk) (m : Mv) (la : Option Addr) (lc : Nat) (pa : Option Addr) (pc : Nat) (ht : t.ok 999999) (hm : m.ok) (hk : m.kind = 2) : AC Tryz.prog 187 ⟨[.agg ⟨t.c la lc pa pc⟩, .agg ⟨m.c⟩]⟩ (stars [own 96 4 la (t.layers).length lc ((t.layers).flatMap Ly.c), own 98 7 pa (t.past).length pc ((t.past).flatMap Pa.c)]) (Outs (fun _ : Option Addr × Nat × Option Addr × Nat => True) (fun x => RmV t la lc pa pc (rlDo t m) x) (fun x => StB 96 98 (rlDo t m) x)) := by
  rw [rlDo_2 hk]; exact ac143 t m la lc pa pc ht hm 
theorem acl3 (t : Sk) (m : Mv) (la : Option Addr) (lc : Nat) (pa : Option Addr) (pc : Nat) (ht : t.ok 999999) (hm : m.ok) (hk : m.kind = 3) : AC Tryz.prog 188 ⟨[.agg ⟨t.c la lc pa pc⟩, .agg ⟨m.c⟩]⟩ (stars [own 96 4 la (t.layers).length lc ((t.layers).flatMap Ly.c), own 98 7 pa (t.past).length pc ((t.past).flatMap Pa.c)]) (Outs (fun _ : Option Addr × Nat × Option Addr × Nat => True) (fun x => RmV t la lc pa pc (rlDo t m) x) (fun x => StB 96 98 (rlDo t m) x)) := by
  rw [rlDo_3 hk]; exact ac144 t m la lc pa pc ht hm hk
theorem acl4 (t : Sk) (m : Mv) (la : Option Addr) (lc : Nat) (pa : Option Addr) (pc : Nat) (ht : t.ok 999999) (hm : m.ok) (hk : m.kind = 4) : AC Tryz.prog 189 ⟨[.agg ⟨t.c la lc pa pc⟩, .agg ⟨m.c⟩]⟩ (stars [own 96 4 la (t.layers).length lc ((t.layers).flatMap Ly.c), own 98 7 pa (t.past).length pc ((t.past).flatMap Pa.c)]) (Outs (fun _ : Option Addr × Nat × Option Addr × Nat => True) (fun x => RmV t la lc pa pc (rlDo t m) x) (fun x => StB 96 98 (rlDo t m) x)) := by
  rw [rlDo_4 hk]; exact ac145 t m la lc pa pc ht hm hk
theorem acl5 (t : Sk) (m : Mv) (la : Option Addr) (lc : Nat) (pa : Option Addr) (pc : Nat) (ht : t.ok 999999) (hm : m.ok) (hk : m.kind = 5) : AC Tryz.prog 190 ⟨[.agg ⟨t.c la lc pa pc⟩, .agg ⟨m.c⟩]⟩ (stars [own 96 4 la (t.layers).length lc ((t.layers).flatMap Ly.c), own 98 7 pa (t.past).length pc ((t.past).flatMap Pa.c)]) (Outs (fun _ : Option Addr × Nat × Option Addr × Nat => True) (fun x => RmV t la lc pa pc (rlDo t m) x) (fun x => StB 96 98 (rlDo t m) x)) := by
  rw [rlDo_5 hk]; exact ac146 t m la lc pa pc ht hm 
section
attribute [local irreducible] OpJ RunL Run RunD DetJ pt own star Rd RdS
theorem ac104 (t : Sk) (m : Mv) (la : Option Addr) (lc : Nat) (pa : Option Addr) (pc : Nat) (ht : t.ok 999999) (hm : m.ok) : AC Tryz.prog 157 ⟨[.agg ⟨t.c la lc pa pc⟩, .agg ⟨m.c⟩]⟩ (stars [own 96 4 la (t.layers).length lc ((t.layers).flatMap Ly.c), own 98 7 pa (t.past).length pc ((t.past).flatMap Pa.c)]) (Outs (fun _ : Option Addr × Nat × Option Addr × Nat => True) (fun x => RmV t la lc pa pc (rlDo t m) x) (fun x => StB 96 98 (rlDo t m) x)) := by
 have hn : t.layers.length ≤ 1000000 ∧ t.past.length ≤ 1000000 := ⟨Nat.le_trans ht.nl (by decide), Nat.le_trans ht.np (by decide)⟩
 have hnl := ht.nl; have hnp := ht.np
 obtain ⟨hm1, hm2⟩ := hm
 refine eo Tryz.func157 fun β => ?_
 refine sr ?_
 refine obx rfl fun b2 => ?_
 refine obx rfl fun b3 => ?_
 refine oal fun b4 => ?_
 refine oal fun b5 => ?_
 refine sx 1 ?_
 refine kq [2, 3, 4, 5] ?_
 refine Run.seq ?_
 refine rg 2 [2, 3, 4, 5, 8] ?_
 refine Run.block ?_
 refine rg 2 [2, 3, 4, 5, 8, 9] ?_
 refine cnd rfl (fun h1 => ?_) fun h1 => ?_
 refine Run.seq ?_
 refine rg 3 [2, 3, 4, 5, 13] ?_
 refine cnd rfl (fun h2 => ?_) fun h2 => ?_
 refine rg 5 [4, 5, 6] ?_
 refine Run.ret ?_
 have hres : rlDo t m = .error 22 := (by rw [rlDo_1 (by assumption)]; exact if_pos (by assumption)); refine ret_out (none, 0, none, 0) (.cellA T28 rfl pk (by rfl) (.cellA T43 rfl pk (by rfl) (.tmp rfl .nil))) trivial (by rw [hres]; rfl) ?_; rw [hres]; exact gv
 refine Run.skip ?_
 refine sr ?_
 refine sx 11 ?_
 refine RunL.op rfl rfl (OpJ.buildSlice1 S26 rfl rfl rfl (by decide) (by decide) Z66 rfl fun b27 => ?_)
 refine RunL.op rfl rfl (OpJ.append1 (⟨m.seq, 1, m.lot, m.qty, m.cost, 0, 0⟩ : Pa) S26 M66 rfl rfl pk pk rfl rfl (by simp [Value.oneCell', Pa.c, Ly.c, Mv.c, Co.c]) rfl (by omega) (by omega) fun a28 c28 => ?_)
 refine sx 2 ?_
 refine kq [2, 3, 4, 5] ?_
 refine Run.seq ?_
 refine regionD HM ?_
 refine dx [0, 1, 2, 3, 4, 5, 6, 8, 9, 10, 11, 12] ?_
 refine RunD.op 7 [true, true, true, true, true, false, false, false, false, false, false, false] rfl rfl rfl kr kr (OpJ.callOuts C142 rfl rfl (ac142 { t with past := t.past ++ [(⟨m.seq, 1, m.lot, m.qty, m.cost, 0, 0⟩ : Pa)] } la lc _ _ (own 96 4 la (t.layers).length lc ((t.layers).flatMap Ly.c)) m.lot m.qty m.cost own.rds hn.1) tks fun ⟨la2, lc2⟩ _ => ⟨po, ?_⟩)
 refine dsw 13 [true, true, true, true, true] ?_
 refine dsw 14 [false, false, false, false, false] ?_
 refine dx [15] ?_
 refine kd [4, 5, 6] rfl ?_
 refine Run.ret ?_
 have hres : rlDo t m = .ok _ := (by rw [rlDo_1 (by assumption)]; exact if_neg (by assumption)); refine ret_out (la2, lc2, a28, c28) (.cellA T28 rfl pk (by rfl) (.cellA T43 rfl pk (by rfl) (.tmp rfl .nil))) trivial (by rw [hres]; simp only [RmV, RmS, Sk.c, List.length_set]; rfl) ?_; rw [hres]; simp only [StB, List.length_set, List.length_append]; exact gv
 refine rg 2 [2, 3, 4, 5, 8, 43] ?_
 refine cnd rfl (fun h3 => ?_) fun h3 => ?_
 refine sr ?_
 refine sx 2 ?_
 refine RunL.callX C143 rfl rfl rfl (acl2 t m la lc pa pc ht ⟨hm1, hm2⟩ (by assumption)) tks fun x _ => ?_
 rcases hres : rlDo t m with e | ⟨t2, c2⟩
 refine sx 3 ?_
 refine RunL.op rfl rfl (OpJ.storeW T28 rfl rfl RmS_len rfl RmS_one up ?_)
 refine sx 2 ?_
 refine kq [4, 5, 6] ?_
 refine Run.ret ?_
 refine ret_out x (.cellA T28 rfl pk (by rfl) (.cellA T43 rfl pk (by rfl) (.tmp rfl .nil))) trivial rfl ?_; exact gv
 refine sx 3 ?_
 refine RunL.op rfl rfl (OpJ.storeW T28 rfl rfl RmS_len rfl RmS_one up ?_)
 refine sx 2 ?_
 refine kq [4, 5, 6] ?_
 refine Run.ret ?_
 refine ret_out x (.cellA T28 rfl pk (by rfl) (.cellA T43 rfl pk (by rfl) (.tmp rfl .nil))) trivial rfl ?_; exact gv
 refine rg 2 [2, 3, 4, 5, 8, 51] ?_
 refine cnd rfl (fun h4 => ?_) fun h4 => ?_
 refine sr ?_
 refine sx 2 ?_
 refine RunL.callX C144 rfl rfl rfl (acl3 t m la lc pa pc ht ⟨hm1, hm2⟩ (by assumption)) tks fun x _ => ?_
 rcases hres : rlDo t m with e | ⟨t2, c2⟩
 refine sx 3 ?_
 refine RunL.op rfl rfl (OpJ.storeW T28 rfl rfl RmS_len rfl RmS_one up ?_)
 refine sx 2 ?_
 refine kq [4, 5, 6] ?_
 refine Run.ret ?_
 refine ret_out x (.cellA T28 rfl pk (by rfl) (.cellA T43 rfl pk (by rfl) (.tmp rfl .nil))) trivial rfl ?_; exact gv
 refine sx 3 ?_
 refine RunL.op rfl rfl (OpJ.storeW T28 rfl rfl RmS_len rfl RmS_one up ?_)
 refine sx 2 ?_
 refine kq [4, 5, 6] ?_
 refine Run.ret ?_
 refine ret_out x (.cellA T28 rfl pk (by rfl) (.cellA T43 rfl pk (by rfl) (.tmp rfl .nil))) trivial rfl ?_; exact gv
 refine rg 2 [2, 3, 4, 5, 8, 59] ?_
 refine cnd rfl (fun h5 => ?_) fun h5 => ?_
 refine sr ?_
 refine sx 2 ?_
 refine RunL.callX C145 rfl rfl rfl (acl4 t m la lc pa pc ht ⟨hm1, hm2⟩ (by assumption)) tks fun x _ => ?_
 rcases hres : rlDo t m with e | ⟨t2, c2⟩
 refine sx 3 ?_
 refine RunL.op rfl rfl (OpJ.storeW T28 rfl rfl RmS_len rfl RmS_one up ?_)
 refine sx 2 ?_
 refine kq [4, 5, 6] ?_
 refine Run.ret ?_
 refine ret_out x (.cellA T28 rfl pk (by rfl) (.cellA T43 rfl pk (by rfl) (.tmp rfl .nil))) trivial rfl ?_; exact gv
 refine sx 3 ?_
 refine RunL.op rfl rfl (OpJ.storeW T28 rfl rfl RmS_len rfl RmS_one up ?_)
 refine sx 2 ?_
 refine kq [4, 5, 6] ?_
 refine Run.ret ?_
 refine ret_out x (.cellA T28 rfl pk (by rfl) (.cellA T43 rfl pk (by rfl) (.tmp rfl .nil))) trivial rfl ?_; exact gv
 refine rg 2 [2, 3, 4, 5, 67] ?_
 refine cnd rfl (fun h6 => ?_) fun h6 => ?_
 refine sr ?_
 refine sx 2 ?_
 refine RunL.callX C146 rfl rfl rfl (acl5 t m la lc pa pc ht ⟨hm1, hm2⟩ (by assumption)) tks fun x _ => ?_
 rcases hres : rlDo t m with e | ⟨t2, c2⟩
 refine sx 3 ?_
 refine RunL.op rfl rfl (OpJ.storeW T28 rfl rfl RmS_len rfl RmS_one up ?_)
 refine sx 2 ?_
 refine kq [4, 5, 6] ?_
 refine Run.ret ?_
 refine ret_out x (.cellA T28 rfl pk (by rfl) (.cellA T43 rfl pk (by rfl) (.tmp rfl .nil))) trivial rfl ?_; exact gv
 refine sx 3 ?_
 refine RunL.op rfl rfl (OpJ.storeW T28 rfl rfl RmS_len rfl RmS_one up ?_)
 refine sx 2 ?_
 refine kq [4, 5, 6] ?_
 refine Run.ret ?_
 refine ret_out x (.cellA T28 rfl pk (by rfl) (.cellA T43 rfl pk (by rfl) (.tmp rfl .nil))) trivial rfl ?_; exact gv
 refine Run.skip ?_
 refine rg 5 [4, 5, 6] ?_
 refine Run.ret ?_
 have hres := rlDo_0 (t := t) (m := m) (by refine ⟨?_, ?_, ?_, ?_, ?_⟩ <;> assumption); refine ret_out (none, 0, none, 0) (.cellA T28 rfl pk (by rfl) (.cellA T43 rfl pk (by rfl) (.tmp rfl .nil))) trivial (by rw [hres]; rfl) ?_; rw [hres]; exact gv
end
theorem ac104f (t : Sk) (m : Mv) (la : Option Addr) (lc : Nat) (pa : Option Addr) (pc : Nat) (ht : t.ok 999999) (hm : m.ok) : AC Tryz.prog 157 ⟨[.agg ⟨t.c la lc pa pc⟩, .agg ⟨m.c⟩]⟩ (stars [own 96 4 la (t.layers).length lc ((t.layers).flatMap Ly.c), own 98 7 pa (t.past).length pc ((t.past).flatMap Pa.c)]) (Outs (fun _ : Option Addr × Nat × Option Addr × Nat => True) (fun x => RmV t la lc pa pc (rlDo t m) x) (fun x => [stars (StB 96 98 (rlDo t m) x)])) := by
  refine AC.mono (ac104 t m la lc pa pc ht hm) (fun _ h => h) ?_
  rintro r h ⟨x, ⟨_, hr⟩, hh⟩
  exact ⟨x, ⟨trivial, hr⟩, stars_un (As := StB 96 98 _ x) (M := []) (by rw [List.append_nil]; exact hh)⟩
section
attribute [local irreducible] OpJ RunL Run RunD DetJ pt own star Rd RdS
theorem ac57 (s : Sk) (m : Mv) (la : Option Addr) (lc : Nat) (pa : Option Addr) (pc : Nat) (RL RP : HP) (hs : s.ok 999999) (hm : m.ok) (hRL : RdS RL la (s.layers.flatMap Ly.c)) (hRP : RdS RP pa (s.past.flatMap Pa.c)) (hsz : (m.item.size : Int) ≤ 9223372036854775807 ∧ (m.lot.size : Int) ≤ 9223372036854775807) (hf0 : s.fine) : AC Tryz.prog 116 ⟨[.agg ⟨s.c la lc pa pc⟩, .agg ⟨m.c⟩]⟩ (stars [RL, RP]) (Outs (fun _ : Option Addr × Nat × Option Addr × Nat => True) (fun x => StV (rlStep s m) x) (fun x => StB 96 98 (rlStep s m) x ++ [RL, RP])) := by
 have hn : s.layers.length ≤ 1000000 ∧ s.past.length ≤ 1000000 := ⟨Nat.le_trans hs.nl (by decide), Nat.le_trans hs.np (by decide)⟩
 have hnl := hn.1; have hnp := hn.2
 refine eo Tryz.func116 fun β => ?_
 refine sr ?_
 refine obx rfl fun b2 => ?_
 refine obx rfl fun b3 => ?_
 refine oal fun b4 => ?_
 refine oal fun b5 => ?_
 refine sx 1 ?_
 refine kq [2, 3, 4, 5] ?_
 refine Run.seq ?_
 refine sr ?_
 refine sx 1 ?_
 refine RunL.call C91 rfl rfl rfl (ac91 m hsz.1 hsz.2) .nil ?_
 refine sx 1 ?_
 refine kq [2, 3, 4, 5, 7] ?_
 refine rg 2 [2, 3, 4, 5, 7, 14] ?_
 refine cnd rfl (fun h1 => ?_) fun h1 => ?_
 refine rg 6 [4, 5, 6] ?_
 refine Run.ret ?_
 have hres2 : rlStep s m = .error m.one := (by unfold rlStep; rw [if_pos h1]); refine ret_out (none, 0, none, 0) (.cellA T28 rfl pk (by rfl) (.cellA T43 rfl pk (by rfl) (.tmp rfl .nil))) trivial (by rw [hres2]; rfl) ?_; rw [hres2]; exact gv
 refine Run.skip ?_
 refine Run.seq ?_
 refine sr ?_
 refine sx 3 ?_
 refine RunL.call C92 rfl rfl rfl (ac92 s la lc pa pc RP m.seq hRP hnp) tks ?_
 rw [known_eq hf0]
 refine kq [2, 3, 4, 5, 21] ?_
 refine cnd rfl (fun h2 => ?_) fun h2 => ?_
 refine rg 5 [4, 5, 6] ?_
 refine Run.ret ?_
 have hres2 : rlStep s m = .error 8 := (by unfold rlStep; rw [if_neg h1, if_pos (by assumption)]); refine ret_out (none, 0, none, 0) (.cellA T28 rfl pk (by rfl) (.cellA T43 rfl pk (by rfl) (.tmp rfl .nil))) trivial (by rw [hres2]; rfl) ?_; rw [hres2]; exact gv
 refine Run.skip ?_
 refine Run.seq ?_
 refine regionD HM ?_
 refine RunD.mono (K' := fun E' L' => ∃ la2 : Option Addr, ∃ lc2 : Nat, ∃ pa2 : Option Addr, ∃ pc2 : Nat, ∃ x : Option Addr × Nat × Option Addr × Nat, ∃ b8 : Nat, ∃ b9 : Nat, E' = [(3, .pointer (some ⟨b3, 0, none⟩)), (4, .pointer (some ⟨b4, 0, none⟩)), (5, .pointer (some ⟨b5, 0, none⟩)), (8, .pointer (some ⟨b8, 0, none⟩)), (9, .pointer (some ⟨b9, 0, none⟩)), (10, I (errOf (rlDo s m)))] ∧ L' = [pt b8 (blk (RmS s la2 lc2 pa2 pc2 (rlDo s m) x) 61), pt b9 (blk (avC (rlDo s m)).c 32), stars (StB 96 98 (rlDo s m) x), pt b3 (blk m.c 35), pt b4 (blk [I 0, I 0, I 0, .slice none 0 0, .slice none 0 0] 61), pt b5 (blk [I 0, I 0, I 0, I 0] 32), RL, RP]) ?_ ?_
 refine dx [0, 2] ?_
 refine RunD.three 1 8 9 [true, false] [true, true] [true, true] rfl rfl rfl rfl rfl rfl rfl rfl rfl kr kr kr kr (OpJ.callOuts C94 rfl rfl (ac94 s la lc pa pc RL RP hn hRL hRP) tks fun ⟨la2, lc2, pa2, pc2⟩ _ => ⟨po, ?_⟩) (OpJ.alloc Z28 fun b8 => ⟨po, ?_⟩) (OpJ.alloc Z43 fun b9 => ⟨po, ?_⟩)
 refine RunD.three 3 8 9 [false] [true] [true] rfl rfl rfl rfl rfl rfl rfl rfl rfl kr kr kr kr (OpJ.callOuts C104 rfl rfl (ac104f s m la2 lc2 pa2 pc2 hs hm) tks fun x _ => ⟨po, ?_⟩) (OpJ.alloc Z28 fun b8 => ⟨po, ?_⟩) (OpJ.alloc Z43 fun b9 => ⟨po, ?_⟩)
 refine dx [4, 5, 6, 7] ?_
 refine RunD.two 8 9 [true, true, true, true] [true, true, true, true] rfl rfl rfl rfl rfl rfl kr kr kr (OpJ.alloc Z28 fun b8 => ⟨po, ?_⟩) (OpJ.alloc Z43 fun b9 => ⟨po, ?_⟩)
 refine RunD.op 9 [true, true, true, true] rfl rfl rfl kr kr (OpJ.alloc Z43 fun b9 => ⟨po, ?_⟩)
 refine RunD.op 10 [true, true, false, false] rfl rfl rfl kr kr (OpJ.storeW T28 rfl rfl RmS_len rfl RmS_one up ⟨po, ?_⟩)
 refine dsw 11 [true, false] ?_
 refine dx [12] ?_
 exact dwk ⟨_, _, _, _, _, _, _, rfl, rfl⟩ rfl gv
 refine RunD.op 8 [true, true, true, true] rfl rfl rfl kr kr (OpJ.alloc Z28 fun b8 => ⟨po, ?_⟩)
 refine RunD.op 10 [true, true, false, false] rfl rfl rfl kr kr (OpJ.storeW T28 rfl rfl RmS_len rfl RmS_one up ⟨po, ?_⟩)
 refine dsw 11 [true, false] ?_
 refine dx [12] ?_
 exact dwk ⟨_, _, _, _, _, _, _, rfl, rfl⟩ rfl gv
 refine RunD.two 3 9 [false] [true] rfl rfl rfl rfl rfl rfl kr kr kr (OpJ.callOuts C104 rfl rfl (ac104f s m la2 lc2 pa2 pc2 hs hm) tks fun x _ => ⟨po, ?_⟩) (OpJ.alloc Z43 fun b9 => ⟨po, ?_⟩)
 refine dx [4, 5, 6, 7] ?_
 refine RunD.op 9 [true, true, true, true] rfl rfl rfl kr kr (OpJ.alloc Z43 fun b9 => ⟨po, ?_⟩)
 refine RunD.op 10 [true, true, false, false] rfl rfl rfl kr kr (OpJ.storeW T28 rfl rfl RmS_len rfl RmS_one up ⟨po, ?_⟩)
 refine dsw 11 [true, false] ?_
 refine dx [12] ?_
 exact dwk ⟨_, _, _, _, _, _, _, rfl, rfl⟩ rfl gv
 refine RunD.op 3 [false] rfl rfl rfl kr kr (OpJ.callOuts C104 rfl rfl (ac104f s m la2 lc2 pa2 pc2 hs hm) tks fun x _ => ⟨po, ?_⟩)
 refine dx [4, 5, 6, 7] ?_
 refine RunD.op 10 [true, true, false, false] rfl rfl rfl kr kr (OpJ.storeW T28 rfl rfl RmS_len rfl RmS_one up ⟨po, ?_⟩)
 refine dsw 11 [true, false] ?_
 refine dx [12] ?_
 exact dwk ⟨_, _, _, _, _, _, _, rfl, rfl⟩ rfl gv
 refine RunD.two 3 8 [false] [true] rfl rfl rfl rfl rfl rfl kr kr kr (OpJ.callOuts C104 rfl rfl (ac104f s m la2 lc2 pa2 pc2 hs hm) tks fun x _ => ⟨po, ?_⟩) (OpJ.alloc Z28 fun b8 => ⟨po, ?_⟩)
 refine dx [4, 5, 6, 7] ?_
 refine RunD.op 8 [true, true, true, true] rfl rfl rfl kr kr (OpJ.alloc Z28 fun b8 => ⟨po, ?_⟩)
 refine RunD.op 10 [true, true, false, false] rfl rfl rfl kr kr (OpJ.storeW T28 rfl rfl RmS_len rfl RmS_one up ⟨po, ?_⟩)
 refine dsw 11 [true, false] ?_
 refine dx [12] ?_
 exact dwk ⟨_, _, _, _, _, _, _, rfl, rfl⟩ rfl gv
 refine RunD.op 3 [false] rfl rfl rfl kr kr (OpJ.callOuts C104 rfl rfl (ac104f s m la2 lc2 pa2 pc2 hs hm) tks fun x _ => ⟨po, ?_⟩)
 refine dx [4, 5, 6, 7] ?_
 refine RunD.op 10 [true, true, false, false] rfl rfl rfl kr kr (OpJ.storeW T28 rfl rfl RmS_len rfl RmS_one up ⟨po, ?_⟩)
 refine dsw 11 [true, false] ?_
 refine dx [12] ?_
 exact dwk ⟨_, _, _, _, _, _, _, rfl, rfl⟩ rfl gv
 refine RunD.two 1 9 [true, false] [true, true] rfl rfl rfl rfl rfl rfl kr kr kr (OpJ.callOuts C94 rfl rfl (ac94 s la lc pa pc RL RP hn hRL hRP) tks fun ⟨la2, lc2, pa2, pc2⟩ _ => ⟨po, ?_⟩) (OpJ.alloc Z43 fun b9 => ⟨po, ?_⟩)
 refine RunD.two 3 9 [false] [true] rfl rfl rfl rfl rfl rfl kr kr kr (OpJ.callOuts C104 rfl rfl (ac104f s m la2 lc2 pa2 pc2 hs hm) tks fun x _ => ⟨po, ?_⟩) (OpJ.alloc Z43 fun b9 => ⟨po, ?_⟩)
 refine dx [4, 5, 6, 7] ?_
 refine RunD.op 9 [true, true, true, true] rfl rfl rfl kr kr (OpJ.alloc Z43 fun b9 => ⟨po, ?_⟩)
 refine RunD.op 10 [true, true, false, false] rfl rfl rfl kr kr (OpJ.storeW T28 rfl rfl RmS_len rfl RmS_one up ⟨po, ?_⟩)
 refine dsw 11 [true, false] ?_
 refine dx [12] ?_
 exact dwk ⟨_, _, _, _, _, _, _, rfl, rfl⟩ rfl gv
 refine RunD.op 3 [false] rfl rfl rfl kr kr (OpJ.callOuts C104 rfl rfl (ac104f s m la2 lc2 pa2 pc2 hs hm) tks fun x _ => ⟨po, ?_⟩)
 refine dx [4, 5, 6, 7] ?_
 refine RunD.op 10 [true, true, false, false] rfl rfl rfl kr kr (OpJ.storeW T28 rfl rfl RmS_len rfl RmS_one up ⟨po, ?_⟩)
 refine dsw 11 [true, false] ?_
 refine dx [12] ?_
 exact dwk ⟨_, _, _, _, _, _, _, rfl, rfl⟩ rfl gv
 refine RunD.op 1 [true, false] rfl rfl rfl kr kr (OpJ.callOuts C94 rfl rfl (ac94 s la lc pa pc RL RP hn hRL hRP) tks fun ⟨la2, lc2, pa2, pc2⟩ _ => ⟨po, ?_⟩)
 refine RunD.op 3 [false] rfl rfl rfl kr kr (OpJ.callOuts C104 rfl rfl (ac104f s m la2 lc2 pa2 pc2 hs hm) tks fun x _ => ⟨po, ?_⟩)
 refine dx [4, 5, 6, 7] ?_
 refine RunD.op 10 [true, true, false, false] rfl rfl rfl kr kr (OpJ.storeW T28 rfl rfl RmS_len rfl RmS_one up ⟨po, ?_⟩)
 refine dsw 11 [true, false] ?_
 refine dx [12] ?_
 exact dwk ⟨_, _, _, _, _, _, _, rfl, rfl⟩ rfl gv
 refine RunD.two 1 8 [true, false] [true, true] rfl rfl rfl rfl rfl rfl kr kr kr (OpJ.callOuts C94 rfl rfl (ac94 s la lc pa pc RL RP hn hRL hRP) tks fun ⟨la2, lc2, pa2, pc2⟩ _ => ⟨po, ?_⟩) (OpJ.alloc Z28 fun b8 => ⟨po, ?_⟩)
 refine RunD.two 3 8 [false] [true] rfl rfl rfl rfl rfl rfl kr kr kr (OpJ.callOuts C104 rfl rfl (ac104f s m la2 lc2 pa2 pc2 hs hm) tks fun x _ => ⟨po, ?_⟩) (OpJ.alloc Z28 fun b8 => ⟨po, ?_⟩)
 refine dx [4, 5, 6, 7] ?_
 refine RunD.op 8 [true, true, true, true] rfl rfl rfl kr kr (OpJ.alloc Z28 fun b8 => ⟨po, ?_⟩)
 refine RunD.op 10 [true, true, false, false] rfl rfl rfl kr kr (OpJ.storeW T28 rfl rfl RmS_len rfl RmS_one up ⟨po, ?_⟩)
 refine dsw 11 [true, false] ?_
 refine dx [12] ?_
 exact dwk ⟨_, _, _, _, _, _, _, rfl, rfl⟩ rfl gv
 refine RunD.op 3 [false] rfl rfl rfl kr kr (OpJ.callOuts C104 rfl rfl (ac104f s m la2 lc2 pa2 pc2 hs hm) tks fun x _ => ⟨po, ?_⟩)
 refine dx [4, 5, 6, 7] ?_
 refine RunD.op 10 [true, true, false, false] rfl rfl rfl kr kr (OpJ.storeW T28 rfl rfl RmS_len rfl RmS_one up ⟨po, ?_⟩)
 refine dsw 11 [true, false] ?_
 refine dx [12] ?_
 exact dwk ⟨_, _, _, _, _, _, _, rfl, rfl⟩ rfl gv
 refine RunD.op 1 [true, false] rfl rfl rfl kr kr (OpJ.callOuts C94 rfl rfl (ac94 s la lc pa pc RL RP hn hRL hRP) tks fun ⟨la2, lc2, pa2, pc2⟩ _ => ⟨po, ?_⟩)
 refine RunD.op 3 [false] rfl rfl rfl kr kr (OpJ.callOuts C104 rfl rfl (ac104f s m la2 lc2 pa2 pc2 hs hm) tks fun x _ => ⟨po, ?_⟩)
 refine dx [4, 5, 6, 7] ?_
 refine RunD.op 10 [true, true, false, false] rfl rfl rfl kr kr (OpJ.storeW T28 rfl rfl RmS_len rfl RmS_one up ⟨po, ?_⟩)
 refine dsw 11 [true, false] ?_
 refine dx [12] ?_
 exact dwk ⟨_, _, _, _, _, _, _, rfl, rfl⟩ rfl gv
 rintro _ _ ⟨la2, lc2, pa2, pc2, x, b8, b9, rfl, rfl⟩
 refine Run.seq ?_
 refine sr ?_
 refine sx 1 ?_
 rcases hres : rlDo s m with e | ⟨t, c⟩
 refine sx 1 ?_
 first | refine RunL.set (congrArg Value.bool (decide_eq_true (show errOf (Except.error _) ≠ 0 from rlDo_err hres))) ?_ | skip
 refine kq [3, 4, 5, 8, 9, 10, 33] ?_
 refine Run.true rfl ?_
 refine rg 6 [4, 5, 6] ?_
 refine Run.ret ?_
 have hres2 : rlStep s m = .error e := (by unfold rlStep; rw [if_neg h1, if_neg (by simp_all), hres]); refine ret_out (none, 0, none, 0) (.cellA T28 rfl pk (by rfl) (.cellA T43 rfl pk (by rfl) (.tmp rfl .nil))) trivial (by rw [hres2]; rfl) ?_; rw [hres2]; exact gv
 have hnt0 := rlDo_len hres; have hnl9 := hs.nl
 have hnt : (summed t c).layers.length ≤ 1000000 := (show t.layers.length ≤ 1000000 by omega)
 refine RunL.unstar (As := StB 96 98 (Except.ok (t, c)) x) pk ?_
 rw [show RmS s la2 lc2 pa2 pc2 (Except.ok (t, c)) x = t.c x.1 x.2.1 x.2.2.1 x.2.2.2 from rfl, show avC (Except.ok (t, c)) = c from rfl]
 refine sx 1 ?_
 first | refine RunL.set (congrArg Value.bool (decide_eq_true (show errOf (Except.error _) ≠ 0 from rlDo_err hres))) ?_ | skip
 refine kq [3, 4, 5, 8, 9, 10, 33] ?_
 refine Run.false rfl ?_
 refine Run.skip ?_
 refine sr ?_
 refine sx 4 ?_
 refine RunL.op rfl rfl (OpJ.add rfl rfl ?_)
 refine sx 2 ?_
 refine kq [3, 4, 5, 8, 9] ?_
 refine sr ?_
 refine sx 4 ?_
 refine RunL.op rfl rfl (OpJ.add rfl rfl ?_)
 refine sx 2 ?_
 refine kq [3, 4, 5, 8, 9] ?_
 refine Run.seq ?_
 refine sr ?_
 refine sx 3 ?_
 refine RunL.call C95 rfl rfl rfl (ac95 (summed t c) x.1 x.2.1 x.2.2.1 x.2.2.2 (own 96 4 x.1 (t.layers).length x.2.1 ((t.layers).flatMap Ly.c)) c.var own.rds hnt) tks ?_
 rw [fits_over]
 refine RunL.op rfl rfl (OpJ.not rfl ?_)
 refine kq [3, 4, 5, 8, 9, 53] ?_
 refine cnd rfl (fun h3 => ?_) fun h3 => ?_
 refine rg 5 [4, 5, 6] ?_
 refine Run.ret ?_
 have hres2 : rlStep s m = .error 4 := (by unfold rlStep; rw [if_neg h1, if_neg (by simp_all), hres]; exact if_pos (show overB (summed t c) c = true from by simpa using h3)); refine ret_out (none, 0, none, 0) (.cellA T28 rfl pk (by rfl) (.cellA T43 rfl pk (by rfl) (.tmp rfl .nil))) trivial (by rw [hres2]; rfl) ?_; rw [hres2]; exact gv
 refine Run.skip ?_
 refine sr ?_
 refine sx 3 ?_
 refine RunL.op rfl rfl (OpJ.store1 T3 rfl rfl rfl up (by show 0 < 4; decide) ?_)
 refine kq [4, 5, 8, 9] ?_
 refine Run.seq ?_
 refine regionD HM ?_
 refine dx [0, 1] ?_
 refine dsw 2 [true, false] ?_
 refine dsw 3 [false] ?_
 refine dx [4] ?_
 refine kd [4, 5, 6] rfl ?_
 refine Run.ret ?_
 have hres2 : rlStep s m = .ok (summed t c, { c with seq := m.seq }) := (by unfold rlStep; rw [if_neg h1, if_neg (by simp_all), hres]; exact if_neg (show ¬ overB (summed t c) c = true from by simpa using h3)); refine ret_out x (.cellA T28 rfl pk (by rfl) (.cellA T43 rfl pk (by rfl) (.tmp rfl .nil))) trivial (by rw [hres2]; rfl) ?_; rw [hres2]; exact gv
theorem ac14 (k p : Int) : AC Tryz.prog 40 ⟨[I k, I p]⟩ (stars []) (Ret (.tuple ⟨[.agg ⟨(start0 k p).c none 0 none 0⟩, I (startE k p)]⟩) []) := by
 refine eo Tryz.func40 fun β => ?_
 refine sr ?_
 refine oal fun b4 => ?_
 refine sx 1 ?_
 refine kq [0, 1, 4] ?_
 refine Run.seq ?_
 refine sr ?_
 refine sx 3 ?_
 refine spl 8 rfl (fun g1 => ?_) fun g1 => ?_
 refine sx 3 ?_
 refine kq [0, 1, 4, 11] ?_
 refine Run.true rfl ?_
 refine rg 3 [4, 5] ?_
 refine Run.ret ?_
 exact ret_one (.cellA T28 rfl pk (by rfl) (.tmp rfl .nil)) (by rw [start0_c]; first | (simp [tup, startE, *]; done) | (exfalso; simp_all; done) | (simp [tup, startE, *]; omega)) gv
 refine sx 3 ?_
 refine kq [0, 1, 4, 11] ?_
 refine cnd rfl (fun h2 => ?_) fun h2 => ?_
 refine rg 3 [4, 5] ?_
 refine Run.ret ?_
 exact ret_one (.cellA T28 rfl pk (by rfl) (.tmp rfl .nil)) (by rw [start0_c]; first | (simp [tup, startE, *]; done) | (exfalso; simp_all; done) | (simp [tup, startE, *]; omega)) gv
 refine Run.skip ?_
 refine Run.seq ?_
 refine sr ?_
 refine sx 3 ?_
 refine spl 15 rfl (fun g3 => ?_) fun g3 => ?_
 refine sx 3 ?_
 refine kq [0, 1, 4, 18] ?_
 refine Run.true rfl ?_
 refine rg 3 [4, 5] ?_
 refine Run.ret ?_
 exact ret_one (.cellA T28 rfl pk (by rfl) (.tmp rfl .nil)) (by rw [start0_c]; first | (simp [tup, startE, *]; done) | (exfalso; simp_all; done) | (simp [tup, startE, *]; omega)) gv
 refine sx 3 ?_
 refine kq [0, 1, 4, 18] ?_
 refine cnd rfl (fun h4 => ?_) fun h4 => ?_
 refine rg 3 [4, 5] ?_
 refine Run.ret ?_
 exact ret_one (.cellA T28 rfl pk (by rfl) (.tmp rfl .nil)) (by rw [start0_c]; first | (simp [tup, startE, *]; done) | (exfalso; simp_all; done) | (simp [tup, startE, *]; omega)) gv
 refine Run.skip ?_
 refine Run.seq ?_
 refine rg 2 [1, 4, 21] ?_
 refine cnd rfl (fun h5 => ?_) fun h5 => ?_
 refine rg 4 [4, 5] ?_
 refine Run.ret ?_
 exact ret_one (.cellA T28 rfl pk (by rfl) (.tmp rfl .nil)) (by rw [start0_c]; first | (simp [tup, startE, *]; done) | (exfalso; simp_all; done) | (simp [tup, startE, *]; omega)) gv
 refine Run.skip ?_
 refine rg 3 [4, 5] ?_
 refine Run.ret ?_
 exact ret_one (.cellA T28 rfl pk (by rfl) (.tmp rfl .nil)) (by rw [start0_c]; first | (simp [tup, startE, *]; done) | (exfalso; simp_all; done) | (simp [tup, startE, *]; omega)) gv
theorem ac28 (k : Int) (s : Sk) (m : Mv) (la : Option Addr) (lc : Nat) (pa : Option Addr) (pc : Nat) (RL RP : HP) (hs : s.ok 999999) (hm : m.ok) (hRL : RdS RL la (s.layers.flatMap Ly.c)) (hRP : RdS RP pa (s.past.flatMap Pa.c)) (hsz : (m.item.size : Int) ≤ 9223372036854775807 ∧ (m.lot.size : Int) ≤ 9223372036854775807) (hf0 : s.fine) (hl0 : k = 2 → s.layers = []) : AC Tryz.prog 80 ⟨[I k, .agg ⟨s.c la lc pa pc⟩, .agg ⟨m.c⟩]⟩ (stars [RL, RP]) (Outs (fun _ : Option Addr × Nat × Option Addr × Nat => True) (fun x => StV (rStepM k s m) x) (fun x => StB 96 98 (rStepM k s m) x ++ [RL, RP])) := by
 refine eo Tryz.func80 fun β => ?_
 refine sr ?_
 refine obx rfl fun b4 => ?_
 refine obx rfl fun b5 => ?_
 refine oal fun b6 => ?_
 refine oal fun b7 => ?_
 refine sx 1 ?_
 refine kq [0, 4, 5, 6, 7] ?_
 refine Run.seq ?_
 refine rg 1 [4, 5, 6, 7, 9] ?_
 refine Run.block ?_
 refine rg 2 [4, 5, 6, 7, 9, 10] ?_
 refine cnd rfl (fun h1 => ?_) fun h1 => ?_
 refine sr ?_
 refine sx 2 ?_
 refine RunL.callX C54 rfl rfl rfl (ac54 s m la lc pa pc RL RP hs hm hRL hRP hsz hf0) tks fun x _ => ?_
 rcases hres : fStep s m with e | ⟨t, c⟩
 refine sx 6 ?_
 refine kq [6, 7, 8] ?_
 refine Run.ret ?_
 refine ret_out x (.cellA T28 rfl pk (by rfl) (.cellA T43 rfl pk (by rfl) (.tmp rfl .nil))) trivial (by rw [rStepM_1 (by assumption), hres]; rfl) ?_; rw [rStepM_1 (by assumption), hres]; exact gv
 refine sx 6 ?_
 refine kq [6, 7, 8] ?_
 refine Run.ret ?_
 refine ret_out x (.cellA T28 rfl pk (by rfl) (.cellA T43 rfl pk (by rfl) (.tmp rfl .nil))) trivial (by rw [rStepM_1 (by assumption), hres]; rfl) ?_; rw [rStepM_1 (by assumption), hres]; exact gv
 refine rg 2 [4, 5, 6, 7, 9, 18] ?_
 refine cnd rfl (fun h2 => ?_) fun h2 => ?_
 refine sr ?_
 refine sx 2 ?_
 refine RunL.callX C55 rfl rfl rfl (ac55 s m la lc pa pc RL RP hs hm hRL hRP hsz hf0 (hl0 (by assumption))) tks fun x _ => ?_
 rcases hres : aStep s m with e | ⟨t, c⟩
 refine sx 6 ?_
 refine kq [6, 7, 8] ?_
 refine Run.ret ?_
 refine ret_out x (.cellA T28 rfl pk (by rfl) (.cellA T43 rfl pk (by rfl) (.tmp rfl .nil))) trivial (by rw [rStepM_2 (by assumption), hres]; rfl) ?_; rw [rStepM_2 (by assumption), hres]; exact gv
 refine sx 6 ?_
 refine kq [6, 7, 8] ?_
 refine Run.ret ?_
 refine ret_out x (.cellA T28 rfl pk (by rfl) (.cellA T43 rfl pk (by rfl) (.tmp rfl .nil))) trivial (by rw [rStepM_2 (by assumption), hres]; rfl) ?_; rw [rStepM_2 (by assumption), hres]; exact gv
 refine rg 2 [4, 5, 6, 7, 9, 26] ?_
 refine cnd rfl (fun h3 => ?_) fun h3 => ?_
 refine sr ?_
 refine sx 2 ?_
 refine RunL.callX C56 rfl rfl rfl (ac56 s m la lc pa pc RL RP hs hm hRL hRP hsz hf0) tks fun x _ => ?_
 rcases hres : rsStep s m with e | ⟨t, c⟩
 refine sx 6 ?_
 refine kq [6, 7, 8] ?_
 refine Run.ret ?_
 refine ret_out x (.cellA T28 rfl pk (by rfl) (.cellA T43 rfl pk (by rfl) (.tmp rfl .nil))) trivial (by rw [rStepM_3 (by assumption), hres]; rfl) ?_; rw [rStepM_3 (by assumption), hres]; exact gv
 refine sx 6 ?_
 refine kq [6, 7, 8] ?_
 refine Run.ret ?_
 refine ret_out x (.cellA T28 rfl pk (by rfl) (.cellA T43 rfl pk (by rfl) (.tmp rfl .nil))) trivial (by rw [rStepM_3 (by assumption), hres]; rfl) ?_; rw [rStepM_3 (by assumption), hres]; exact gv
 refine rg 2 [4, 5, 6, 7, 34] ?_
 refine cnd rfl (fun h4 => ?_) fun h4 => ?_
 refine sr ?_
 refine sx 2 ?_
 refine RunL.callX C57 rfl rfl rfl (ac57 s m la lc pa pc RL RP hs hm hRL hRP hsz hf0) tks fun x _ => ?_
 rcases hres : rlStep s m with e | ⟨t, c⟩
 refine sx 6 ?_
 refine kq [6, 7, 8] ?_
 refine Run.ret ?_
 refine ret_out x (.cellA T28 rfl pk (by rfl) (.cellA T43 rfl pk (by rfl) (.tmp rfl .nil))) trivial (by rw [rStepM_4 (by assumption), hres]; rfl) ?_; rw [rStepM_4 (by assumption), hres]; exact gv
 refine sx 6 ?_
 refine kq [6, 7, 8] ?_
 refine Run.ret ?_
 refine ret_out x (.cellA T28 rfl pk (by rfl) (.cellA T43 rfl pk (by rfl) (.tmp rfl .nil))) trivial (by rw [rStepM_4 (by assumption), hres]; rfl) ?_; rw [rStepM_4 (by assumption), hres]; exact gv
 refine Run.skip ?_
 refine rg 5 [6, 7, 8] ?_
 refine Run.ret ?_
 have hres := rStepM_0 (k := k) (s := s) (m := m) (by refine ⟨?_, ?_, ?_, ?_⟩ <;> assumption); refine ret_out (none, 0, none, 0) (.cellA T28 rfl pk (by rfl) (.cellA T43 rfl pk (by rfl) (.tmp rfl .nil))) trivial (by rw [hres]; rfl) ?_; rw [hres]; exact gv
end
theorem ac28f (k : Int) (s : Sk) (m : Mv) (la : Option Addr) (lc : Nat) (pa : Option Addr) (pc : Nat) (RL RP : HP) (hs : s.ok 999999) (hm : m.ok) (hRL : RdS RL la (s.layers.flatMap Ly.c)) (hRP : RdS RP pa (s.past.flatMap Pa.c)) (hsz : (m.item.size : Int) ≤ 9223372036854775807 ∧ (m.lot.size : Int) ≤ 9223372036854775807) (hf0 : s.fine) (hl0 : k = 2 → s.layers = []) : AC Tryz.prog 80 ⟨[I k, .agg ⟨s.c la lc pa pc⟩, .agg ⟨m.c⟩]⟩ (stars [RL, RP]) (Outs (fun _ : Option Addr × Nat × Option Addr × Nat => True) (fun x => .tuple ⟨[.agg ⟨StS (rStepM k s m) x⟩, .agg ⟨(avC (rStepM k s m)).c⟩, I (errOf (rStepM k s m))]⟩) (fun x => [stars (StB 96 98 (rStepM k s m) x), RL, RP])) := by
  refine AC.mono (ac28 k s m la lc pa pc RL RP hs hm hRL hRP hsz hf0 hl0) (fun _ h => h) ?_
  rintro r h ⟨x, ⟨_, hr⟩, hh⟩
  exact ⟨x, ⟨trivial, hr.trans StV_eq⟩, stars_un hh⟩
end Go.Proofs.YtcpghpifbgpkjaaGreatDoor
