/- Laws of the walks and of the models, part 1 (merged by program). -/
import Derived.Test.YtcpghpifbgpkjaaGreatDoorC0
set_option linter.unusedVariables false
set_option linter.unusedSimpArgs false
set_option maxRecDepth 20000
set_option maxHeartbeats 4000000
namespace Go.SL
open Go
abbrev U (n : Int) : Value := .int .u64 n
abbrev i64 (n : Int) : Prop := -9223372036854775808 ≤ n ∧ n ≤ 9223372036854775807
abbrev u64 (n : Int) : Prop := 0 ≤ n ∧ n < 18446744073709551616

theorem wrap_u64 (z : Int) : IntKind.u64.wrap z = z % 18446744073709551616 := by
  simp [IntKind.wrap, IntKind.bits, IntKind.signed]
theorem wrap_u64_in {z : Int} (h : u64 z) : IntKind.u64.wrap z = z := by rw [wrap_u64]; omega
theorem shr_u64 (m : Int) (k : Nat) (hk : k ≤ 64) : m.fdiv (2 ^ (min (k : Int).toNat IntKind.u64.bits)) = m / 2 ^ k := by
  have : min (k : Int).toNat IntKind.u64.bits = k := by simp [IntKind.bits]; omega
  rw [this, Int.fdiv_eq_ediv_of_nonneg _ (Int.pow_nonneg (by decide))]
theorem toNat_ofInt64 {m : Int} (h : u64 m) : (BitVec.ofInt 64 m).toNat = m.toNat := by
  rw [BitVec.toNat_ofInt]; congr 1; omega
theorem and_u64 (m n : Int) (hm : u64 m) (hn : u64 n) : IntKind.u64.wrap ((BitVec.ofInt IntKind.u64.bits m &&& BitVec.ofInt IntKind.u64.bits n).toNat : Int) = ((m.toNat &&& n.toNat : Nat) : Int) := by
  have h1 : (BitVec.ofInt IntKind.u64.bits m &&& BitVec.ofInt IntKind.u64.bits n).toNat = m.toNat &&& n.toNat := by
    show (BitVec.ofInt 64 m &&& BitVec.ofInt 64 n).toNat = _
    rw [BitVec.toNat_and, toNat_ofInt64 hm, toNat_ofInt64 hn]
  rw [h1]
  refine wrap_u64_in ⟨by omega, ?_⟩
  have := Nat.and_le_left (n := m.toNat) (m := n.toNat)
  omega
theorem or_u64 (m n : Int) (hm : u64 m) (hn : u64 n) : IntKind.u64.wrap ((BitVec.ofInt IntKind.u64.bits m ||| BitVec.ofInt IntKind.u64.bits n).toNat : Int) = ((m.toNat ||| n.toNat : Nat) : Int) := by
  have h1 : (BitVec.ofInt IntKind.u64.bits m ||| BitVec.ofInt IntKind.u64.bits n).toNat = m.toNat ||| n.toNat := by
    show (BitVec.ofInt 64 m ||| BitVec.ofInt 64 n).toNat = _
    rw [BitVec.toNat_or, toNat_ofInt64 hm, toNat_ofInt64 hn]
  rw [h1]
  refine wrap_u64_in ⟨by omega, ?_⟩
  have : m.toNat ||| n.toNat < 2 ^ 64 := Nat.or_lt_two_pow (by omega) (by omega)
  omega
theorem and_mask (m : Int) (h : u64 m) : ((m.toNat &&& (4294967295 : Int).toNat : Nat) : Int) = m % 4294967296 := by
  have : m.toNat &&& 4294967295 = m.toNat % 2 ^ 32 := Nat.and_two_pow_sub_one_eq_mod m.toNat 32
  show ((m.toNat &&& 4294967295 : Nat) : Int) = _
  rw [this]; omega
theorem and_one (m : Int) (h : u64 m) : ((m.toNat &&& (1 : Int).toNat : Nat) : Int) = m % 2 := by
  have : m.toNat &&& 1 = m.toNat % 2 ^ 1 := Nat.and_two_pow_sub_one_eq_mod m.toNat 1
  show ((m.toNat &&& 1 : Nat) : Int) = _
  rw [this]; omega
theorem or_add {x y : Int} {k : Nat} (hx : 0 ≤ x) (hy : 0 ≤ y) (hyk : y < 2 ^ k) : (((x * 2 ^ k).toNat ||| y.toNat : Nat) : Int) = x * 2 ^ k + y := by
  obtain ⟨a, rfl⟩ := Int.eq_ofNat_of_zero_le hx
  obtain ⟨b, rfl⟩ := Int.eq_ofNat_of_zero_le hy
  have hb : b < 2 ^ k := by exact_mod_cast hyk
  have h1 : ((a : Int) * 2 ^ k).toNat = a <<< k := by
    rw [Nat.shiftLeft_eq]
    have : ((a : Int) * 2 ^ k) = ((a * 2 ^ k : Nat) : Int) := by push_cast; rfl
    rw [this, Int.toNat_natCast]
  rw [h1, Int.toNat_natCast, ← Nat.shiftLeft_add_eq_or_of_lt hb, Nat.shiftLeft_eq]
  push_cast; rfl

section
variable {P : Program} {β : Base} {E : Env} {L : List HP} {K : Value → List HP → Prop} {d : Option Tmp} {ty : TypeId} {pos : String} {af : Array Edge} {g : Option (Nat × Bool)} {x y : Operand} {t t' : TypeId} {m n : Int} {k' : IntKind}
theorem OpJ.shrU {k : Nat} (hx : E.ev x = some (U m)) (hy : E.ev y = some (.int k' (k : Int))) (hk : k ≤ 64) (h : K (U (m / 2 ^ k)) L) : OpJ P β E L ⟨d, .binOp .shr t x y t', ty, pos, af, g⟩ K :=
  OpJ.shr hx hy (by omega) (by rw [shr_u64 m k hk]; exact h)
theorem OpJ.maskU (hx : E.ev x = some (U m)) (hy : E.ev y = some (U 4294967295)) (hm : u64 m) (h : K (U (m % 4294967296)) L) : OpJ P β E L ⟨d, .binOp .and t x y t', ty, pos, af, g⟩ K :=
  OpJ.band hx hy (by rw [and_u64 m _ hm (by decide), and_mask m hm]; exact h)
theorem OpJ.oneU (hx : E.ev x = some (U m)) (hy : E.ev y = some (U 1)) (hm : u64 m) (h : K (U (m % 2)) L) : OpJ P β E L ⟨d, .binOp .and t x y t', ty, pos, af, g⟩ K :=
  OpJ.band hx hy (by rw [and_u64 m _ hm (by decide), and_one m hm]; exact h)
theorem OpJ.mulU (hx : E.ev x = some (U m)) (hy : E.ev y = some (U n)) (hb : u64 (m * n)) (h : K (U (m * n)) L) : OpJ P β E L ⟨d, .binOp .mul t x y t', ty, pos, af, g⟩ K :=
  OpJ.mul hx hy (by rw [wrap_u64_in hb]; exact h)
theorem OpJ.addU (hx : E.ev x = some (U m)) (hy : E.ev y = some (U n)) (hb : u64 (m + n)) (h : K (U (m + n)) L) : OpJ P β E L ⟨d, .binOp .add t x y t', ty, pos, af, g⟩ K :=
  OpJ.add hx hy (by rw [wrap_u64_in hb]; exact h)
theorem OpJ.subU (hx : E.ev x = some (U m)) (hy : E.ev y = some (U n)) (hb : u64 (m - n)) (h : K (U (m - n)) L) : OpJ P β E L ⟨d, .binOp .sub t x y t', ty, pos, af, g⟩ K :=
  OpJ.sub hx hy (by rw [wrap_u64_in hb]; exact h)
end

theorem mul32 {m n : Int} (hm : 0 ≤ m ∧ m < 4294967296) (hn : 0 ≤ n ∧ n < 4294967296) : 0 ≤ m * n ∧ m * n ≤ 18446744065119617025 := by
  refine ⟨Int.mul_nonneg hm.1 hn.1, ?_⟩
  have h1 : m * n ≤ 4294967295 * n := Int.mul_le_mul_of_nonneg_right (by omega) hn.1
  omega

theorem mul_words (a b : Int) (ha : u64 a) (hb : u64 b) :
    let a1 := a / 2 ^ 32; let a0 := a % 4294967296; let b1 := b / 2 ^ 32; let b0 := b % 4294967296
    let bottom := a0 * b0; let middle := a1 * b0 + bottom / 2 ^ 32; let other := a0 * b1 + middle % 4294967296
    (a1 * b1 + middle / 2 ^ 32 + other / 2 ^ 32) * 18446744073709551616 + (other % 4294967296 * 4294967296 + bottom % 4294967296) = a * b := by
  intro a1 a0 b1 b0 bottom middle other
  have ea : a = a1 * 4294967296 + a0 := by simp only [a1, a0]; omega
  have eb : b = b1 * 4294967296 + b0 := by simp only [b1, b0]; omega
  have eab : a * b = a1 * b1 * 18446744073709551616 + a1 * b0 * 4294967296 + a0 * b1 * 4294967296 + a0 * b0 := by
    rw [ea, eb]
    simp only [Int.add_mul, Int.mul_add]
    have e1 : a1 * 4294967296 * (b1 * 4294967296) = a1 * b1 * 18446744073709551616 := by
      rw [Int.mul_assoc, Int.mul_left_comm 4294967296 b1, ← Int.mul_assoc, (by decide : (4294967296 : Int) * 4294967296 = 18446744073709551616)]
    have e2 : a1 * 4294967296 * b0 = a1 * b0 * 4294967296 := by rw [Int.mul_right_comm]
    have e3 : a0 * (b1 * 4294967296) = a0 * b1 * 4294967296 := by rw [Int.mul_assoc]
    rw [e1, e2, e3]; omega
  rw [eab]
  simp only [other, middle, bottom]
  generalize a1 * b1 = p at *
  generalize a1 * b0 = q at *
  generalize a0 * b1 = r at *
  generalize a0 * b0 = s at *
  clear_value a1 a0 b1 b0
  omega

def mag (n : Int) : Int := if n < 0 then -n else n
def addN (a b : Int) : Int := if -9223372036854775808 ≤ a + b ∧ a + b ≤ 9223372036854775807 then a + b else 0
def addOk (a b : Int) : Bool := decide (-9223372036854775808 ≤ a + b ∧ a + b ≤ 9223372036854775807)
def subN (a b : Int) : Int := if -9223372036854775808 ≤ a - b ∧ a - b ≤ 9223372036854775807 then a - b else 0
def subOk (a b : Int) : Bool := decide (-9223372036854775808 ≤ a - b ∧ a - b ≤ 9223372036854775807)
def awayB (mode : Int) (neg odd : Bool) (r c : Int) : Bool :=
  decide (r ≠ 0) && (if mode = 2 then true else if mode = 3 then decide (c - r ≤ r) else if mode = 4 then (decide (c - r < r) || (decide (r = c - r) && odd)) else if mode = 5 then neg else false)
def signedN (neg : Bool) (size : Int) : Int := if neg then (if 9223372036854775808 < size then 0 else -size) else (if 9223372036854775808 ≤ size then 0 else size)
def signedE (neg : Bool) (size : Int) : Int := if neg then (if 9223372036854775808 < size then 4 else 0) else (if 9223372036854775808 ≤ size then 4 else 0)
theorem add_r1 {a b : Int} (ha : i64 a) (hb : i64 b) (h : (!decide (decide (a < IntKind.i64.wrap (a + b)) = decide (0 < b))) = true) (h0 : b ≠ 0) : tup [I 0, Bo false] = .tuple ⟨[I (addN a b), Bo (addOk a b)]⟩ := by
  have hw := IntKind.wrap_i64 (a + b)
  rw [hw] at h
  simp only [Bool.not_eq_true', decide_eq_false_iff_not, decide_eq_decide] at h
  have : ¬ (-9223372036854775808 ≤ a + b ∧ a + b ≤ 9223372036854775807) := by omega
  simp [tup, addN, addOk, this]
theorem add_r2 {a b : Int} (ha : i64 a) (hb : i64 b) (h : (!decide (decide (a < IntKind.i64.wrap (a + b)) = decide (0 < b))) = false ∨ ¬ b ≠ 0) : tup [I (IntKind.i64.wrap (a + b)), Bo true] = .tuple ⟨[I (addN a b), Bo (addOk a b)]⟩ := by
  have hw := IntKind.wrap_i64 (a + b)
  have : -9223372036854775808 ≤ a + b ∧ a + b ≤ 9223372036854775807 := by
    rcases h with h | h
    · rw [hw] at h
      simp only [Bool.not_eq_false', decide_eq_true_eq, decide_eq_decide] at h
      omega
    · omega
  rw [wrap_i64_in this]
  simp [tup, addN, addOk, this]
theorem sub_r1 {a b : Int} (ha : i64 a) (hb : i64 b) (h : (!decide (decide (IntKind.i64.wrap (a - b) < a) = decide (0 < b))) = true) (h0 : b ≠ 0) : tup [I 0, Bo false] = .tuple ⟨[I (subN a b), Bo (subOk a b)]⟩ := by
  have hw := IntKind.wrap_i64 (a - b)
  rw [hw] at h
  simp only [Bool.not_eq_true', decide_eq_false_iff_not, decide_eq_decide] at h
  have : ¬ (-9223372036854775808 ≤ a - b ∧ a - b ≤ 9223372036854775807) := by omega
  simp [tup, subN, subOk, this]
theorem sub_r2 {a b : Int} (ha : i64 a) (hb : i64 b) (h : (!decide (decide (IntKind.i64.wrap (a - b) < a) = decide (0 < b))) = false ∨ ¬ b ≠ 0) : tup [I (IntKind.i64.wrap (a - b)), Bo true] = .tuple ⟨[I (subN a b), Bo (subOk a b)]⟩ := by
  have hw := IntKind.wrap_i64 (a - b)
  have : -9223372036854775808 ≤ a - b ∧ a - b ≤ 9223372036854775807 := by
    rcases h with h | h
    · rw [hw] at h
      simp only [Bool.not_eq_false', decide_eq_true_eq, decide_eq_decide] at h
      omega
    · omega
  rw [wrap_i64_in this]
  simp [tup, subN, subOk, this]
theorem mag_conv_neg {n : Int} (h : i64 n) (hn : n < 0) : IntKind.u64.wrap (0 - IntKind.u64.wrap n) = mag n := by
  rw [wrap_u64, wrap_u64]; unfold mag; omega
theorem mag_conv_pos {n : Int} (h : i64 n) (hn : ¬ n < 0) : IntKind.u64.wrap n = mag n := by
  rw [wrap_u64]; unfold mag; omega
theorem mag_u64 {n : Int} (h : i64 n) : u64 (mag n) := by unfold mag; split <;> constructor <;> omega
theorem signed_neg {size : Int} (h : u64 size) (hn : ¬ 9223372036854775808 < size) : IntKind.i64.wrap (IntKind.i64.wrap (0 - IntKind.i64.wrap (IntKind.u64.wrap (size - 1))) - 1) = -size := by
  simp only [IntKind.wrap_i64, wrap_u64]; omega
theorem signed_pos {size : Int} (h : u64 size) (hn : ¬ 9223372036854775808 ≤ size) : IntKind.i64.wrap size = size := wrap_i64_in ⟨by omega, by omega⟩
attribute [irreducible] mag addN addOk subN subOk awayB signedN signedE

theorem mul32u {m n : Int} (hm : 0 ≤ m ∧ m < 4294967296) (hn : 0 ≤ n ∧ n < 4294967296) : u64 (m * n) := by have := mul32 hm hn; exact ⟨this.1, by omega⟩
theorem hi32 {a : Int} (h : u64 a) : 0 ≤ a / 2 ^ 32 ∧ a / 2 ^ 32 < 4294967296 := by constructor <;> omega
theorem lo32 (a : Int) : 0 ≤ a % 4294967296 ∧ a % 4294967296 < 4294967296 := by constructor <;> omega
section
variable {P : Program} {β : Base} {E : Env} {L : List HP} {K : Value → List HP → Prop} {d : Option Tmp} {ty : TypeId} {pos : String} {af : Array Edge} {g : Option (Nat × Bool)} {x y : Operand} {t t' : TypeId} {m n : Int} {k' : IntKind}
theorem shl_u64 (m : Int) (k : Nat) (hk : k ≤ 64) : IntKind.u64.wrap (m * 2 ^ (min (k : Int).toNat IntKind.u64.bits)) = (m * 2 ^ k) % 18446744073709551616 := by
  have : min (k : Int).toNat IntKind.u64.bits = k := by simp [IntKind.bits]; omega
  rw [this, wrap_u64]
theorem OpJ.shl32 (hx : E.ev x = some (U m)) (hy : E.ev y = some (.int k' 32)) (h : K (U (m % 4294967296 * 4294967296)) L) : OpJ P β E L ⟨d, .binOp .shl t x y t', ty, pos, af, g⟩ K :=
  OpJ.shl hx hy (by omega) (by
    have e := shl_u64 m 32 (by omega)
    have e2 : ((32 : Nat) : Int) = 32 := rfl
    rw [e2] at e
    rw [e, show m * 2 ^ 32 % 18446744073709551616 = m % 4294967296 * 4294967296 by omega]; exact h)
theorem OpJ.orShl {a b : Int} (hx : E.ev x = some (U (a * 4294967296))) (hy : E.ev y = some (U b)) (ha : 0 ≤ a ∧ a < 4294967296) (hb : 0 ≤ b ∧ b < 4294967296) (h : K (U (a * 4294967296 + b)) L) : OpJ P β E L ⟨d, .binOp .or t x y t', ty, pos, af, g⟩ K :=
  OpJ.bor hx hy (by
    rw [or_u64 _ _ (by constructor <;> omega) (by constructor <;> omega)]
    have := or_add (x := a) (y := b) (k := 32) ha.1 hb.1 (by omega)
    rw [show a * 4294967296 = a * 2 ^ 32 from rfl, this]; exact h)
end
theorem words_ret {X Y ab : Int} (h : X * 18446744073709551616 + Y = ab) (hy : 0 ≤ Y ∧ Y < 18446744073709551616) : tup [.agg ⟨[U X, U Y]⟩] = .agg ⟨[U (ab / 18446744073709551616), U (ab % 18446744073709551616)]⟩ := by
  rw [show X = ab / 18446744073709551616 by omega, show Y = ab % 18446744073709551616 by omega]; rfl
theorem words_ret2 {X Y ab : Int} (h : X * 18446744073709551616 + Y = ab) (hy : 0 ≤ Y ∧ Y < 18446744073709551616) : tup [U X, U (IntKind.u64.wrap ab)] = .tuple ⟨[U (ab / 18446744073709551616), U (ab % 18446744073709551616)]⟩ := by
  rw [wrap_u64, show X = ab / 18446744073709551616 by omega]; rfl

def mulN (a b : Int) : Int := if -9223372036854775808 ≤ a * b ∧ a * b ≤ 9223372036854775807 then a * b else 0
def mulOk (a b : Int) : Bool := decide (-9223372036854775808 ≤ a * b ∧ a * b ≤ 9223372036854775807)
theorem mag_mul (a b : Int) : mag a * mag b = mag (a * b) := by
  unfold mag
  by_cases ha : a < 0 <;> by_cases hb : b < 0
  · have : 0 < a * b := Int.mul_pos_of_neg_of_neg ha hb
    rw [if_pos ha, if_pos hb, if_neg (by omega)]; rw [Int.neg_mul_neg]
  · rw [if_pos ha, if_neg hb]
    rcases Int.lt_or_eq_of_le (Int.not_lt.1 hb) with h | h
    · have : a * b < 0 := Int.mul_neg_of_neg_of_pos ha h
      rw [if_pos this, Int.neg_mul]
    · subst h; simp
  · rw [if_neg ha, if_pos hb]
    rcases Int.lt_or_eq_of_le (Int.not_lt.1 ha) with h | h
    · have : a * b < 0 := Int.mul_neg_of_pos_of_neg h hb
      rw [if_pos this, Int.mul_neg]
    · subst h; simp
  · have : 0 ≤ a * b := Int.mul_nonneg (by omega) (by omega)
    rw [if_neg ha, if_neg hb, if_neg (by omega)]

theorem sgn_diff {a b : Int} (h : (!decide (decide (a < 0) = decide (b < 0))) = true) : a * b ≤ 0 ∧ mag a * mag b = -(a * b) := by
  simp only [Bool.not_eq_true', decide_eq_false_iff_not, decide_eq_decide] at h
  have h0 : a * b ≤ 0 := by
    by_cases ha : a < 0
    · exact Int.mul_nonpos_of_nonpos_of_nonneg (by omega) (by omega)
    · exact Int.mul_nonpos_of_nonneg_of_nonpos (by omega) (by omega)
  refine ⟨h0, ?_⟩
  rw [mag_mul]; unfold mag; split <;> omega
theorem sgn_same {a b : Int} (h : (!decide (decide (a < 0) = decide (b < 0))) = false) : 0 ≤ a * b ∧ mag a * mag b = a * b := by
  simp only [Bool.not_eq_false', decide_eq_true_eq, decide_eq_decide] at h
  have h0 : 0 ≤ a * b := by
    by_cases ha : a < 0
    · have := Int.mul_pos_of_neg_of_neg ha (h.1 ha); omega
    · exact Int.mul_nonneg (by omega) (by omega)
  refine ⟨h0, ?_⟩
  rw [mag_mul]; unfold mag; split <;> omega
theorem mul_no {a b : Int} (h : a * b < -9223372036854775808 ∨ 9223372036854775807 < a * b) : tup [I 0, Bo false] = .tuple ⟨[I (mulN a b), Bo (mulOk a b)]⟩ := by
  have h1 : ¬ (-9223372036854775808 ≤ a * b ∧ a * b ≤ 9223372036854775807) := by omega
  unfold mulN mulOk; rw [if_neg h1, decide_eq_false h1]; rfl
theorem mul_yes {a b : Int} (h : -9223372036854775808 ≤ a * b ∧ a * b ≤ 9223372036854775807) : tup [I (IntKind.i64.wrap (a * b)), Bo true] = .tuple ⟨[I (mulN a b), Bo (mulOk a b)]⟩ := by
  unfold mulN mulOk; rw [if_pos h, decide_eq_true h, wrap_i64_in h]; rfl
attribute [irreducible] mulN mulOk
end Go.SL

namespace Go.SL
open Go
section
variable {P : Program} {β : Base} {E : Env} {L L' M M' : List HP} {K : Value → List HP → Prop} {d : Option Tmp} {ty : TypeId} {pos : String} {af : Array Edge} {g : Option (Nat × Bool)} {x y : Operand} {t t' : TypeId} {k k' : IntKind} {m n : Int}
theorem OpJ.quoU (hx : E.ev x = some (U m)) (hy : E.ev y = some (U n)) (hm : u64 m) (hn : 0 < n) (h : K (U (m / n)) L) : OpJ P β E L ⟨d, .binOp .quo t x y t', ty, pos, af, g⟩ K :=
  OpJ.quo hx hy (by omega) (by
    have h1 : m.tdiv n = m / n := Int.tdiv_eq_ediv_of_nonneg hm.1
    have h2 := Int.ediv_nonneg hm.1 (Int.le_of_lt hn)
    have h3 := Int.ediv_le_self n hm.1
    rw [h1, wrap_u64_in ⟨h2, by have := hm.2; omega⟩]; exact h)
theorem OpJ.remU (hx : E.ev x = some (U m)) (hy : E.ev y = some (U n)) (hm : u64 m) (hn : 0 < n) (h : K (U (m % n)) L) : OpJ P β E L ⟨d, .binOp .rem t x y t', ty, pos, af, g⟩ K :=
  OpJ.rem hx hy (by omega) (by rw [Int.tmod_eq_emod_of_nonneg hm.1]; exact h)
end
end Go.SL

namespace Go.SL
open Go
section
variable {P : Program} {β : Base} {E : Env} {L L' M M' : List HP} {K : Value → List HP → Prop} {d : Option Tmp} {ty : TypeId} {pos : String} {af : Array Edge} {g : Option (Nat × Bool)} {x y : Operand} {t t' : TypeId} {e : TypeId} {k : Nat} {α : Type} {enc : α → List Value}
theorem OpJ.appendL {bytes m c cap : Nat} {zs : List Value} {oa ob : Option Addr} {R : HP} (xs ys : List α) (S : SI P t e k) (I : MI P e k bytes zs) (hx : E.ev x = some (.slice oa xs.length cap)) (hy : E.ev y = some (.slice ob m c))
    (p : Pick L (own e k oa xs.length cap (xs.flatMap enc)) M) (p2 : Pick L R M') (hr : RdS R ob (ys.flatMap enc)) (hm : m = ys.length) (hk : ∀ x, (enc x).length = k) (h0 : 0 < k) (h1 : ∀ x, ∀ v ∈ enc x, Value.oneCell' v = true) (hb : (xs.length + ys.length) * bytes ≤ 140737488355328) (h63 : xs.length + ys.length ≤ 9223372036854775807)
    (h : ∀ oa' cap', K (.slice oa' (xs ++ ys).length cap') (own e k oa' (xs ++ ys).length cap' ((xs ++ ys).flatMap enc) :: M)) : OpJ P β E L ⟨d, .call ⟨.builtin .append, #[x, y], #[t, t]⟩, ty, pos, af, g⟩ K := by
  subst hm
  refine OpJ.appendAll S I hx hy p p2 hr (flat_len hk _) h0 (flat_one h1 _) hb h63 fun oa' cap' => ?_
  have h2 := h oa' cap'
  rw [List.length_append, List.flatMap_append] at h2
  exact h2
theorem own.take {T : TypeId} {oa : Option Addr} {n cap : Nat} {xs ys : List α} (i : Nat) (hk : ∀ x, (enc x).length = k) (e : xs.take i = ys) : RdS (own T k oa n cap (xs.flatMap enc)) oa (ys.flatMap enc) := fun h hh => by
  subst e
  rcases own.rds h hh with h0 | ⟨b, o, e, c, t, fr, hb, hc⟩
  · left; rw [flat_take hk, h0]; simp
  · right; refine ⟨b, o, e, c, t, fr, hb, fun j v hj => hc j v ?_⟩
    rw [flat_take hk, List.getElem?_take] at hj
    split at hj
    · exact hj
    · cases hj
theorem own.drop {T : TypeId} {b n cap : Nat} {xs ys : List α} (i : Nat) (hk : ∀ x, (enc x).length = k) (e : xs.drop i = ys) (hn : n = xs.length) (hc : n ≤ cap) : RdS (own T k (some ⟨b, 0, none⟩) n cap (xs.flatMap enc)) (some (if cap = i then ⟨b, 0, none⟩ else ⟨b, 0 + i * k, none⟩)) (ys.flatMap enc) := fun h hh => by
  subst e
  by_cases hi : cap = i
  · left; rw [List.drop_of_length_le (by omega)]; rfl
  · rcases own.rds h hh with h0 | ⟨b', o, e, c, t, fr, hb, hc⟩
    · left; rw [flat_drop hk, h0]; simp
    · right; rw [if_neg hi]
      simp only [Option.some.injEq, Addr.mk.injEq, and_true] at e
      obtain ⟨rfl, rfl⟩ := e
      refine ⟨b, 0 + i * k, rfl, c, t, fr, hb, fun j v hj => ?_⟩
      rw [flat_drop hk, List.getElem?_drop] at hj
      rw [Nat.add_assoc]; exact hc _ _ hj
end
end Go.SL

namespace Go.SL
open Go
section
variable {P : Program} {β : Base} {E : Env} {L L' M M' : List HP} {K : Value → List HP → Prop} {d : Option Tmp} {ty : TypeId} {pos : String} {af : Array Edge} {g : Option (Nat × Bool)} {x y : Operand} {t t' : TypeId}
theorem OpJ.geqS {s u : ByteArray} (hx : E.ev x = some (.string s)) (hy : E.ev y = some (.string u)) (h : K (.bool (!(Op.bytesLess s.toList u.toList))) L) : OpJ P β E L ⟨d, .binOp .geq t x y t', ty, pos, af, g⟩ K :=
  OpJ.same (fun a w ha _ => by simp [execOp, ha.ev hx, ha.ev hy, eqGuard, binOp, Op.stringOp]) h
end
end Go.SL

namespace Go.SL
open Go
class UI (P : Program) (t : TypeId) (d : outParam TypeDesc) : Prop where
  eq : P.underlying t = some d
theorem UI.some {P : Program} {t : TypeId} {d : TypeDesc} (u : UI P t d) : (P.underlying t).isSome = true := by rw [u.eq]; rfl
class SoI (P : Program) (t : TypeId) : Prop where
  eq : (P.underlying t).isSome = true
class PI (P : Program) (t : TypeId) : Prop where
  eq : P.underlying t = some (.pointer (P.pointee t))
structure Hold (G : Prop) : Prop where
  of : G
structure Sts (P : Program) (β : Base) (n : Nat) (arr : Array Oper) (k : Nat) (os : List Oper) (E : Env) (L : List HP) (K : Env → List HP → Prop) : Prop where
  of : RunL P β n arr os E L K
section
variable {P : Program} {β : Base} {n k : Nat} {arr : Array Oper} {os : List Oper} {E : Env} {L : List HP} {K : Value → List HP → Prop} {H : Env → List HP → Prop} {d : Option Tmp} {op : Op} {ty : TypeId} {pos : String} {af : Array Edge} {x y : Operand} {u v : Value} {t t' : TypeId} {g : Option (Nat × Bool)}
theorem OpJ.up {o : Oper} {K' : Value → List HP → Prop} (h : OpJ P β E L o K) (hk : ∀ v L, K v L → K' v L) : OpJ P β E L o K' := fun a w ha hs next Q hn => h a w ha hs next Q fun v L' w' hK hs' => hn v L' w' (hk v L' hK) hs'
theorem Sts.done (h : RunL P β n arr os E L H) : Sts P β n arr 0 os E L H := ⟨h⟩
theorem Sts.o1 (hd : dstOk n d = true) (h : OpJ P β E L ⟨d, op, ty, pos, af, none⟩ fun v L1 => Sts P β n arr k os (E.put d v) L1 H) : Sts P β n arr (k + 1) (⟨d, op, ty, pos, af, none⟩ :: os) E L H :=
  ⟨RunL.op hd rfl (h.up fun v L1 h => h.of)⟩
theorem Sts.yes {j : Nat} {b : Bool} {gd : Tmp} (hd : dstOk n d = true) (hj : (arr[j]?).bind (·.dst) = some gd) (hb : E.get gd = some u) (hu : u = .bool b)
    (h : OpJ P β E L ⟨d, op, ty, pos, af, some (j, b)⟩ fun v L1 => Sts P β n arr k os (E.put d v) L1 H) : Sts P β n arr (k + 1) (⟨d, op, ty, pos, af, some (j, b)⟩ :: os) E L H :=
  ⟨RunL.yes hd rfl hj (by rw [hb, hu]) (h.up fun v L1 h => h.of)⟩
theorem Sts.noT {j : Nat} {gd : Tmp} (hd : dstOk n d = true) (hj : (arr[j]?).bind (·.dst) = some gd) (hb : E.get gd = some u) (hu : u = .bool false)
    (h : Sts P β n arr k os (E.put d undef) L H) : Sts P β n arr (k + 1) (⟨d, op, ty, pos, af, some (j, true)⟩ :: os) E L H :=
  ⟨RunL.no hd rfl hj (by rw [hb, hu]; rfl) h.of⟩
theorem Sts.noF {j : Nat} {gd : Tmp} (hd : dstOk n d = true) (hj : (arr[j]?).bind (·.dst) = some gd) (hb : E.get gd = some u) (hu : u = .bool true)
    (h : Sts P β n arr k os (E.put d undef) L H) : Sts P β n arr (k + 1) (⟨d, op, ty, pos, af, some (j, false)⟩ :: os) E L H :=
  ⟨RunL.no hd rfl hj (by rw [hb, hu]; rfl) h.of⟩
theorem Sts.undef {j : Nat} {b : Bool} {gd : Tmp} (hd : dstOk n d = true) (hj : (arr[j]?).bind (·.dst) = some gd) (hb : E.get gd = some u) (hu : u = Go.undef)
    (h : Sts P β n arr k os (E.put d Go.undef) L H) : Sts P β n arr (k + 1) (⟨d, op, ty, pos, af, some (j, b)⟩ :: os) E L H :=
  ⟨RunL.undef hd rfl hj (by rw [hb, hu]) h.of⟩
theorem OpJ.pickXT {c : Operand} (hc : E.ev c = some u) (hu : u = .bool true) (hx : E.ev x = some v) (k : K v L) : OpJ P β E L ⟨d, .pick c x y, ty, pos, af, g⟩ K := OpJ.pickT (hu ▸ hc) hx k
theorem OpJ.pickXF {c : Operand} (hc : E.ev c = some u) (hu : u = .bool false) (hy : E.ev y = some v) (k : K v L) : OpJ P β E L ⟨d, .pick c x y, ty, pos, af, g⟩ K := OpJ.pickF (hu ▸ hc) hy k
theorem OpJ.notXT (hx : E.ev x = some u) (hu : u = .bool true) (h : K (.bool false) L) : OpJ P β E L ⟨d, .unOp .not t x, ty, pos, af, g⟩ K := OpJ.not (b := true) (hu ▸ hx) h
theorem OpJ.notXF (hx : E.ev x = some u) (hu : u = .bool false) (h : K (.bool true) L) : OpJ P β E L ⟨d, .unOp .not t x, ty, pos, af, g⟩ K := OpJ.not (b := false) (hu ▸ hx) h
theorem OpJ.buildX {zs cs : List Value} {places : List (Nat × Nat)} {xs : List (Nat × Operand)} {ps : List (Nat × Value)} (B : BI P t zs places) (hx : E.evp xs = some ps) (hb : bldL places zs ps = some cs) (h : K (.agg ⟨cs⟩) L) : OpJ P β E L ⟨d, .build t ⟨xs⟩, ty, pos, af, g⟩ K :=
  OpJ.build B hx (by rw [hb]; rfl) fun cs' h' => by cases hb.symm.trans h'; exact h
theorem OpJ.buildArrX {zs cs : List Value} {xs : List (Nat × Operand)} {ps : List (Nat × Value)} (B : BAI P t zs) (hx : E.evp xs = some ps) (hb : bldA zs ps = some cs) (h : K (.agg ⟨cs⟩) L) : OpJ P β E L ⟨d, .build t ⟨xs⟩, ty, pos, af, g⟩ K :=
  OpJ.buildArr B hx (by rw [hb]; rfl) fun cs' h' => by cases hb.symm.trans h'; exact h
theorem bx1 {α : Type} : Value.bool (!(none : Option α).isSome) = .bool true := rfl
theorem bx2 {α : Type} {a : α} : Value.bool (!(some a).isSome) = .bool false := rfl
theorem bx3 {α : Type} : Value.bool ((none : Option α).isSome) = .bool false := rfl
theorem bx4 {α : Type} {a : α} : Value.bool ((some a).isSome) = .bool true := rfl
theorem bx5 {α : Type} : Value.bool ((none : Option α).isNone) = .bool true := rfl
theorem bx6 {α : Type} {a : α} : Value.bool ((some a).isNone) = .bool false := rfl
theorem bx7 : Value.bool (!true) = .bool false := rfl
theorem bx8 : Value.bool (!false) = .bool true := rfl
theorem bx9 {α : Type} : Value.bool (!(none : Option α).isNone) = .bool false := rfl
theorem bx10 {α : Type} {a : α} : Value.bool (!(some a).isNone) = .bool true := rfl
theorem gd {α : Type} {u v : α} (h : u = v := by with_reducible first | exact rfl | exact bx1 | exact bx2 | exact bx3 | exact bx4 | exact bx5 | exact bx6 | exact bx7 | exact bx8 | exact bx9 | exact bx10) : u = v := h
section
variable {bo : BinOp} {uo : UnOp} {xs : Array (Nat × Operand)} {cc : Call} {z : Operand} {i : Nat}
theorem gLd (h : OpJ P β E L ⟨d, .load t x, ty, pos, af, g⟩ K) : OpJ P β E L ⟨d, .load t x, ty, pos, af, g⟩ K := h
theorem gSt (h : OpJ P β E L ⟨d, .store t x y, ty, pos, af, g⟩ K) : OpJ P β E L ⟨d, .store t x y, ty, pos, af, g⟩ K := h
theorem gAdd (h : OpJ P β E L ⟨d, .binOp .add t x y t', ty, pos, af, g⟩ K) : OpJ P β E L ⟨d, .binOp .add t x y t', ty, pos, af, g⟩ K := h
theorem gSub (h : OpJ P β E L ⟨d, .binOp .sub t x y t', ty, pos, af, g⟩ K) : OpJ P β E L ⟨d, .binOp .sub t x y t', ty, pos, af, g⟩ K := h
theorem gBin (h : OpJ P β E L ⟨d, .binOp bo t x y t', ty, pos, af, g⟩ K) : OpJ P β E L ⟨d, .binOp bo t x y t', ty, pos, af, g⟩ K := h
theorem gUn (h : OpJ P β E L ⟨d, .unOp uo t x, ty, pos, af, g⟩ K) : OpJ P β E L ⟨d, .unOp uo t x, ty, pos, af, g⟩ K := h
theorem gIA (h : OpJ P β E L ⟨d, .indexAddr t x y, ty, pos, af, g⟩ K) : OpJ P β E L ⟨d, .indexAddr t x y, ty, pos, af, g⟩ K := h
theorem gBld (h : OpJ P β E L ⟨d, .build t xs, ty, pos, af, g⟩ K) : OpJ P β E L ⟨d, .build t xs, ty, pos, af, g⟩ K := h
theorem gCall (h : OpJ P β E L ⟨d, .call cc, ty, pos, af, g⟩ K) : OpJ P β E L ⟨d, .call cc, ty, pos, af, g⟩ K := h
theorem gPick (h : OpJ P β E L ⟨d, .pick x y z, ty, pos, af, g⟩ K) : OpJ P β E L ⟨d, .pick x y z, ty, pos, af, g⟩ K := h
theorem gFld (h : OpJ P β E L ⟨d, .field t x i, ty, pos, af, g⟩ K) : OpJ P β E L ⟨d, .field t x i, ty, pos, af, g⟩ K := h
theorem gCv (h : OpJ P β E L ⟨d, .convert t t' x, ty, pos, af, g⟩ K) : OpJ P β E L ⟨d, .convert t t' x, ty, pos, af, g⟩ K := h
theorem gQuo (h : OpJ P β E L ⟨d, .binOp .quo t x y t', ty, pos, af, g⟩ K) : OpJ P β E L ⟨d, .binOp .quo t x y t', ty, pos, af, g⟩ K := h
theorem gRem (h : OpJ P β E L ⟨d, .binOp .rem t x y t', ty, pos, af, g⟩ K) : OpJ P β E L ⟨d, .binOp .rem t x y t', ty, pos, af, g⟩ K := h
theorem gShl (h : OpJ P β E L ⟨d, .binOp .shl t x y t', ty, pos, af, g⟩ K) : OpJ P β E L ⟨d, .binOp .shl t x y t', ty, pos, af, g⟩ K := h
theorem gShr (h : OpJ P β E L ⟨d, .binOp .shr t x y t', ty, pos, af, g⟩ K) : OpJ P β E L ⟨d, .binOp .shr t x y t', ty, pos, af, g⟩ K := h
end
end
end Go.SL
namespace Go.SL
open Go
section
variable {P : Program} {β : Base} {n : Nat} {arr : Array Oper} {os : List Oper} {E : Env} {L : List HP} {H : Env → List HP → Prop}
theorem sx (k : Nat) {G : (Env → List HP → Prop) → Prop} (h : G H) (s : ∀ H', Hold (G H') → Sts P β n arr k os E L H' := by intro H' hk; repeat (first | exact Sts.done hk.of | ((first | refine Sts.o1 rfl ?_ | refine Sts.yes rfl rfl rfl gd ?_); (first | refine OpJ.move rfl ?_ | refine OpJ.assign rfl ?_ | refine OpJ.fieldAddr inferInstance rfl ?_ | (refine gLd ?_; first | refine OpJ.loadF inferInstance rfl pk (by rfl) ?_ | refine OpJ.loadO inferInstance rfl pk (by assumption) (by rfl) (by exact fun _ => rfl) ?_ | refine OpJ.loadW inferInstance rfl pk (by rfl) ?_ | refine OpJ.loadP inferInstance rfl pk (by simp) ?_ | refine OpJ.loadE inferInstance rfl pk (by assumption) (by exact fun _ => rfl) rfl (by decide) ?_) | refine OpJ.extract rfl rfl ?_ | (refine gPick ?_; first | refine OpJ.pickXT rfl gd rfl ?_ | refine OpJ.pickXF rfl gd rfl ?_ | refine OpJ.pick rfl rfl rfl ?_) | (refine gSt ?_; first | refine OpJ.storeW inferInstance rfl rfl rfl rfl (by simp [Value.oneCell', Pa.c, Ly.c, Mv.c, Co.c]) up ?_ | refine OpJ.store1 inferInstance rfl rfl rfl up (by simp) ?_ | refine OpJ.store inferInstance rfl rfl rfl rfl (by simp [Value.cells, Value.oneCell', Pa.c, Ly.c, Mv.c, Co.c]) up (by simp) ?_) | (refine gAdd ?_; first | refine OpJ.addI rfl rfl (by omega) ?_ | refine OpJ.add rfl rfl ?_) | (refine gSub ?_; first | refine OpJ.subI rfl rfl (by omega) ?_ | refine OpJ.sub rfl rfl ?_) | (refine gQuo ?_; first | refine OpJ.quo rfl rfl (by omega) ?_) | (refine gRem ?_; first | refine OpJ.rem rfl rfl (by omega) ?_) | (refine gShl ?_; first | refine OpJ.shl rfl rfl (by omega) ?_) | (refine gShr ?_; first | refine OpJ.shr rfl rfl (by omega) ?_) | (refine gBin ?_; first | refine OpJ.eql rfl rfl ?_ | refine OpJ.neq rfl rfl ?_ | refine OpJ.lss rfl rfl ?_ | refine OpJ.gtr rfl rfl ?_ | refine OpJ.leq rfl rfl ?_ | refine OpJ.geq rfl rfl ?_ | refine OpJ.mul rfl rfl ?_ | refine OpJ.eqlS rfl rfl ?_ | refine OpJ.neqS rfl rfl ?_ | refine OpJ.lssS rfl rfl ?_ | refine OpJ.gtrS rfl rfl ?_ | refine OpJ.geqS rfl rfl ?_ | refine OpJ.eqlNil PI.eq rfl ?_ | refine OpJ.neqNil PI.eq rfl ?_ | refine OpJ.eqlNilSl inferInstance rfl ?_ | refine OpJ.eqlA inferInstance rfl rfl rfl ?_ | refine OpJ.neqA inferInstance rfl rfl rfl ?_ | refine OpJ.eqlB UI.eq rfl rfl ?_ | refine OpJ.neqB UI.eq rfl rfl ?_ | refine OpJ.band rfl rfl ?_ | refine OpJ.bor rfl rfl ?_) | refine OpJ.nilCheck rfl ?_ | (refine gCall ?_; first | refine OpJ.len inferInstance rfl ?_ | refine OpJ.lenS UI.eq rfl ?_ | refine OpJ.min rfl rfl ?_) | (refine gIA ?_; first | refine OpJ.indexAddr inferInstance rfl rfl (by omega) ?_ | refine OpJ.indexAddrArr inferInstance rfl rfl (by omega) ?_) | (refine gUn ?_; first | refine OpJ.notXT rfl gd ?_ | refine OpJ.notXF rfl gd ?_ | refine OpJ.not rfl ?_ | refine OpJ.neg rfl ?_) | (refine gCv ?_; first | refine OpJ.conv SoI.eq UI.eq rfl ?_) | (refine gFld ?_; first | refine OpJ.fieldA inferInstance inferInstance rfl ?_ | refine OpJ.field1 inferInstance inferInstance rfl (by rfl) ?_) | refine OpJ.makeFunc rfl rfl ?_ | (refine gBld ?_; first | refine OpJ.buildX inferInstance rfl (by simp only [Sk.c, Mv.c, Co.c, bldL, Value.cells, bs, Nat.reduceAdd, Nat.reduceLeDiff, Nat.reduceLT]; rfl) ?_ | refine OpJ.buildArrX inferInstance rfl (by simp only [bldA, Value.cells, bs, Nat.reduceAdd, Nat.reduceLeDiff, Nat.reduceLT]; rfl) ?_))) | refine Sts.noT rfl rfl rfl gd ?_ | refine Sts.noF rfl rfl rfl gd ?_ | refine Sts.undef rfl rfl rfl gd ?_)) : RunL P β n arr os E L H := (s H ⟨h⟩).of
theorem sy (k : Nat) {G : (Env → List HP → Prop) → Prop} (h : G H) (s : ∀ H', Hold (G H') → Sts P β n arr k os E L H' := by intro H' hk; repeat (first | exact Sts.done hk.of | ((first | refine Sts.o1 rfl ?_ | refine Sts.yes rfl rfl rfl (by rfl) ?_); (first | refine OpJ.move rfl ?_ | refine OpJ.assign rfl ?_ | refine OpJ.fieldAddr inferInstance rfl ?_ | (refine gLd ?_; first | refine OpJ.loadF inferInstance rfl pk (by rfl) ?_ | refine OpJ.loadO inferInstance rfl pk (by assumption) (by rfl) (by exact fun _ => rfl) ?_ | refine OpJ.loadW inferInstance rfl pk (by rfl) ?_ | refine OpJ.loadP inferInstance rfl pk (by simp) ?_ | refine OpJ.loadE inferInstance rfl pk (by assumption) (by exact fun _ => rfl) rfl (by decide) ?_) | refine OpJ.extract rfl rfl ?_ | (refine gPick ?_; first | refine OpJ.pickXT rfl (by rfl) rfl ?_ | refine OpJ.pickXF rfl (by rfl) rfl ?_ | refine OpJ.pick rfl rfl rfl ?_) | (refine gSt ?_; first | refine OpJ.storeW inferInstance rfl rfl rfl rfl (by simp [Value.oneCell', Pa.c, Ly.c, Mv.c, Co.c]) up ?_ | refine OpJ.store1 inferInstance rfl rfl rfl up (by simp) ?_ | refine OpJ.store inferInstance rfl rfl rfl rfl (by simp [Value.cells, Value.oneCell', Pa.c, Ly.c, Mv.c, Co.c]) up (by simp) ?_) | (refine gAdd ?_; first | refine OpJ.addI rfl rfl (by omega) ?_ | refine OpJ.add rfl rfl ?_) | (refine gSub ?_; first | refine OpJ.subI rfl rfl (by omega) ?_ | refine OpJ.sub rfl rfl ?_) | (refine gQuo ?_; first | refine OpJ.quo rfl rfl (by omega) ?_) | (refine gRem ?_; first | refine OpJ.rem rfl rfl (by omega) ?_) | (refine gShl ?_; first | refine OpJ.shl rfl rfl (by omega) ?_) | (refine gShr ?_; first | refine OpJ.shr rfl rfl (by omega) ?_) | (refine gBin ?_; first | refine OpJ.eql rfl rfl ?_ | refine OpJ.neq rfl rfl ?_ | refine OpJ.lss rfl rfl ?_ | refine OpJ.gtr rfl rfl ?_ | refine OpJ.leq rfl rfl ?_ | refine OpJ.geq rfl rfl ?_ | refine OpJ.mul rfl rfl ?_ | refine OpJ.eqlS rfl rfl ?_ | refine OpJ.neqS rfl rfl ?_ | refine OpJ.lssS rfl rfl ?_ | refine OpJ.gtrS rfl rfl ?_ | refine OpJ.geqS rfl rfl ?_ | refine OpJ.eqlNil PI.eq rfl ?_ | refine OpJ.neqNil PI.eq rfl ?_ | refine OpJ.eqlNilSl inferInstance rfl ?_ | refine OpJ.eqlA inferInstance rfl rfl rfl ?_ | refine OpJ.neqA inferInstance rfl rfl rfl ?_ | refine OpJ.eqlB UI.eq rfl rfl ?_ | refine OpJ.neqB UI.eq rfl rfl ?_ | refine OpJ.band rfl rfl ?_ | refine OpJ.bor rfl rfl ?_) | refine OpJ.nilCheck rfl ?_ | (refine gCall ?_; first | refine OpJ.len inferInstance rfl ?_ | refine OpJ.lenS UI.eq rfl ?_ | refine OpJ.min rfl rfl ?_) | (refine gIA ?_; first | refine OpJ.indexAddr inferInstance rfl rfl (by omega) ?_ | refine OpJ.indexAddrArr inferInstance rfl rfl (by omega) ?_) | (refine gUn ?_; first | refine OpJ.notXT rfl (by rfl) ?_ | refine OpJ.notXF rfl (by rfl) ?_ | refine OpJ.not rfl ?_ | refine OpJ.neg rfl ?_) | (refine gCv ?_; first | refine OpJ.conv SoI.eq UI.eq rfl ?_) | (refine gFld ?_; first | refine OpJ.fieldA inferInstance inferInstance rfl ?_ | refine OpJ.field1 inferInstance inferInstance rfl (by rfl) ?_) | refine OpJ.makeFunc rfl rfl ?_ | (refine gBld ?_; first | refine OpJ.buildX inferInstance rfl (by simp only [Sk.c, Mv.c, Co.c, bldL, Value.cells, bs, Nat.reduceAdd, Nat.reduceLeDiff, Nat.reduceLT]; rfl) ?_ | refine OpJ.buildArrX inferInstance rfl (by simp only [bldA, Value.cells, bs, Nat.reduceAdd, Nat.reduceLeDiff, Nat.reduceLT]; rfl) ?_))) | refine Sts.noT rfl rfl rfl (by rfl) ?_ | refine Sts.noF rfl rfl rfl (by rfl) ?_ | refine Sts.undef rfl rfl rfl (by rfl) ?_)) : RunL P β n arr os E L H := (s H ⟨h⟩).of
end
end Go.SL

namespace Go.SL
open Go
def leapB (y : Int) : Bool := decide (y.tmod 4 = 0 ∧ ¬ y.tmod 100 = 0 ∨ y.tmod 400 = 0)
def lensL : List Int := [31, 28, 31, 30, 31, 30, 31, 31, 30, 31, 30, 31]
def lensC : List Value := lensL.map I
def lenM (leap : Bool) (m : Int) : Int := if m < 1 ∨ 12 < m then 0 else if m = 2 ∧ leap = true then 29 else lensL.getD (m - 1).toNat 0
def beforeF (y : Int) : Int := 365 * (y - 1900) + ((y - 1) / 4 - (y - 1) / 100 + (y - 1) / 400 - 460)
def restM (leap : Bool) (m : Int) : Int := [365, 334, 306, 275, 245, 214, 184, 153, 122, 92, 61, 31].getD (m - 1).toNat 0 + (if m ≤ 2 ∧ leap = true then 1 else 0)
theorem lens_get {m : Int} (h1 : 1 ≤ m) (h2 : m ≤ 12) : lensC[(m - 1).toNat]? = some (I (lensL.getD (m - 1).toNat 0)) := by
  obtain ⟨k, rfl⟩ : ∃ k : Nat, m = (k : Int) + 1 := ⟨(m - 1).toNat, by omega⟩
  have hk : k < 12 := by omega
  rw [show ((k : Int) + 1 - 1).toNat = k by omega]
  match k, hk with
  | 0, _ | 1, _ | 2, _ | 3, _ | 4, _ | 5, _ | 6, _ | 7, _ | 8, _ | 9, _ | 10, _ | 11, _ => rfl
theorem rest_step {leap : Bool} {m : Int} (h1 : 1 ≤ m) (h2 : m < 12) : restM leap m = lenM leap m + restM leap (m + 1) := by
  obtain ⟨k, rfl⟩ : ∃ k : Nat, m = (k : Int) + 1 := ⟨(m - 1).toNat, by omega⟩
  have hk : k < 11 := by omega
  cases leap <;> match k, hk with
  | 0, _ | 1, _ | 2, _ | 3, _ | 4, _ | 5, _ | 6, _ | 7, _ | 8, _ | 9, _ | 10, _ => rfl
theorem rest_last {leap : Bool} : restM leap 12 = lenM leap 12 := by cases leap <;> rfl
theorem rest_first {leap : Bool} : restM leap 1 = 365 + (if leap = true then 1 else 0) := by cases leap <;> rfl
theorem lenM_range {leap : Bool} {m : Int} : 0 ≤ lenM leap m ∧ lenM leap m ≤ 31 := by
  unfold lenM
  split
  · omega
  · split
    · omega
    · obtain ⟨k, rfl⟩ : ∃ k : Nat, m = (k : Int) + 1 := ⟨(m - 1).toNat, by omega⟩
      have hk : k < 12 := by omega
      rw [show ((k : Int) + 1 - 1).toNat = k by omega]
      match k, hk with
      | 0, _ | 1, _ | 2, _ | 3, _ | 4, _ | 5, _ | 6, _ | 7, _ | 8, _ | 9, _ | 10, _ | 11, _ => decide
theorem before_step {y : Int} (h1 : 1900 ≤ y) (h2 : y ≤ 2199) : beforeF (y + 1) = beforeF y + 365 + (if leapB y = true then 1 else 0) := by
  unfold beforeF leapB
  simp only [decide_eq_true_eq]
  rw [Int.tmod_eq_emod_of_nonneg (by omega), Int.tmod_eq_emod_of_nonneg (by omega), Int.tmod_eq_emod_of_nonneg (by omega)]
  split <;> omega
theorem before_last : beforeF 2200 = 109573 := by decide
theorem before_first {n : Int} (h0 : 0 ≤ n) (h1 : n ≤ 109572) : 1900 ≤ 1900 + n / 366 ∧ 1900 + n / 366 ≤ 2199 ∧ beforeF (1900 + n / 366) ≤ n := by
  refine ⟨by omega, by omega, ?_⟩
  unfold beforeF; omega
theorem before_wrap {y : Int} (h1 : 1900 ≤ y) (h2 : y ≤ 2200) : -1000000 ≤ beforeF y ∧ beforeF y ≤ 1000000 := by unfold beforeF; omega
theorem year_found {n y : Int} (h1 : 1900 ≤ y) (h2 : y ≤ 2199) (h3 : beforeF y ≤ n) (hn : n ≤ 109572) (h : ¬ (y < 2199 ∧ beforeF (y + 1) ≤ n)) : 0 ≤ n - beforeF y ∧ n - beforeF y < restM (leapB y) 1 := by
  have hs := before_step h1 h2
  rw [rest_first]
  refine ⟨by omega, ?_⟩
  by_cases e : y = 2199
  · subst e
    have := before_last
    rw [show (2199 : Int) + 1 = 2200 from rfl] at hs
    omega
  · have : n < beforeF (y + 1) := by omega
    omega
theorem before_code {y : Int} (h1 : 1900 ≤ y) (h2 : y ≤ 2200) :
    IntKind.i64.wrap (IntKind.i64.wrap (365 * IntKind.i64.wrap (y - 1900)) + IntKind.i64.wrap (IntKind.i64.wrap (IntKind.i64.wrap (IntKind.i64.wrap (IntKind.i64.wrap ((IntKind.i64.wrap ((IntKind.i64.wrap (y - 1)).tdiv 4)) - (IntKind.i64.wrap ((IntKind.i64.wrap (y - 1)).tdiv 100))) + (IntKind.i64.wrap ((IntKind.i64.wrap (y - 1)).tdiv 400))) - 474) + 18) - 4)) = beforeF y := by
  have e1 : IntKind.i64.wrap (y - 1) = y - 1 := wrap_i64_in ⟨by omega, by omega⟩
  rw [e1, Int.tdiv_eq_ediv_of_nonneg (by omega), Int.tdiv_eq_ediv_of_nonneg (by omega), Int.tdiv_eq_ediv_of_nonneg (by omega)]
  simp only [IntKind.wrap_i64]
  unfold beforeF
  omega
theorem inB_iff {n lo hi : Int} : inB n lo hi = true ↔ lo ≤ n ∧ n ≤ hi := by unfold inB; simp
theorem rest_next {leap : Bool} {m n : Int} (h1 : 1 ≤ m) (h2 : m ≤ 12) (hn : n < restM leap m) (hl : lenM leap m ≤ n) : m < 12 ∧ 0 ≤ n - lenM leap m ∧ n - lenM leap m < restM leap (m + 1) := by
  by_cases e : m = 12
  · subst e; have := rest_last (leap := leap); omega
  · have := rest_step (leap := leap) h1 (by omega); omega
theorem rest_le {leap : Bool} {m : Int} : restM leap m ≤ 366 := by
  unfold restM
  have : ∀ k : Nat, ([365, 334, 306, 275, 245, 214, 184, 153, 122, 92, 61, 31] : List Int).getD k 0 ≤ 365 := by
    intro k
    match k with
    | 0 | 1 | 2 | 3 | 4 | 5 | 6 | 7 | 8 | 9 | 10 | 11 => decide
    | k + 12 => simp
  have := this (m - 1).toNat
  split <;> omega
attribute [irreducible] lenM beforeF restM leapB
end Go.SL

namespace Go.SL
open Go
def byteOk (c : UInt8) : Bool := letterB (c.toNat : Int) || digitB (c.toNat : Int)
def everyB (s : ByteArray) : Bool := s.data.toList.all byteOk
def codeB (s : ByteArray) : Bool := decide (s ≠ ⟨#[]⟩) && decide ((s.size : Int) ≤ 12) && everyB s
def Mv.lotOk (m : Mv) : Bool := decide (m.lot = ⟨#[]⟩) || (codeB m.lot && decide (m.kind = 1 ∨ m.kind = 2))
def Mv.refBad (m : Mv) : Bool := (refersB m.kind && decide (m.ref < 1)) || (!refersB m.kind && decide (m.ref ≠ 0))
def Mv.one (m : Mv) : Int :=
  if (!inB m.value 0 109572) = true then 11 else if (!codeB m.item) = true then 7 else if (!inB m.kind 1 6) = true then 10
  else if (!m.quantityOk || !m.costOk) = true then 3 else if (!m.lotOk) = true then 22 else if m.refBad = true then 28 else 0
theorem byte_get {s : ByteArray} {i : Nat} : s[i]? = s.data.toList[i]? := by
  rw [Array.getElem?_toList]
  by_cases h : i < s.size
  · rw [getElem?_pos s i h, getElem?_pos s.data i h]; rfl
  · rw [getElem?_neg s i h, getElem?_neg s.data i h]
theorem byte_ex {s : ByteArray} {i : Nat} (h : (i : Int) < (s.size : Int)) : ∃ u, s[i]? = some u := ⟨_, getElem?_pos s i (by omega)⟩
theorem everyB_false {s : ByteArray} {i : Nat} {u : UInt8} (h : s[i]? = some u) (hb : byteOk u = false) : everyB s = false := by
  rw [byte_get] at h
  unfold everyB
  rw [List.all_eq_false]
  exact ⟨u, List.mem_of_getElem? h, by simp [hb]⟩
theorem everyB_true {s : ByteArray} (h : ∀ (i : Nat) u, i < s.size → s[i]? = some u → byteOk u = true) : everyB s = true := by
  unfold everyB
  rw [List.all_eq_true]
  intro u hu
  obtain ⟨i, hi, rfl⟩ := List.getElem_of_mem hu
  refine h i _ (by simpa using hi) ?_
  rw [byte_get]; exact List.getElem?_eq_getElem hi
attribute [irreducible] everyB codeB Mv.lotOk Mv.refBad Mv.one
end Go.SL

namespace Go.SL
open Go
structure DInv (rin word c : Int) (k : Nat) (q r : Int) : Prop where
  k64 : k ≤ 64
  r0 : 0 ≤ r
  rc : r < c
  q0 : 0 ≤ q
  qb : q < 2 ^ (64 - k)
  eq : rin * 2 ^ (64 - k) + word / 2 ^ k = q * c + r
theorem le_mul_one {a b : Int} (ha : 0 ≤ a) (hb : 1 ≤ b) : a ≤ a * b := by
  have := Int.mul_le_mul_of_nonneg_left hb ha
  rwa [Int.mul_one] at this
theorem pow_pos (k : Nat) : (0 : Int) < 2 ^ k := Int.pow_pos (by decide)
theorem DInv.start {rin word c : Int} (hr : 0 ≤ rin) (hc : rin < c) (hw : u64 word) : DInv rin word c 64 0 rin := by
  refine ⟨Nat.le_refl _, hr, hc, by omega, by simp, ?_⟩
  have : word / 2 ^ 64 = 0 := Int.ediv_eq_zero_of_lt hw.1 (by rw [show (2 : Int) ^ 64 = 18446744073709551616 from by decide]; exact hw.2)
  rw [this]; simp
theorem half_word (word : Int) (k : Nat) : word / 2 ^ k = 2 * (word / 2 ^ (k + 1)) + (word / 2 ^ k) % 2 := by
  have : word / 2 ^ (k + 1) = word / 2 ^ k / 2 := by
    rw [Int.pow_succ, Int.ediv_ediv_of_nonneg (Int.le_of_lt (pow_pos k))]
  rw [this]; omega
theorem pow_half {k : Nat} (h : k + 1 ≤ 64) : (2 : Int) ^ (64 - k) = 2 * 2 ^ (64 - (k + 1)) := by
  rw [show 64 - k = (64 - (k + 1)) + 1 by omega, Int.pow_succ]; omega
theorem DInv.step {rin word c q r : Int} {k : Nat} (h : DInv rin word c (k + 1) q r) (hk : k + 1 ≤ 64) :
    (c ≤ 2 * r + (word / 2 ^ k) % 2 → DInv rin word c k (2 * q + 1) (2 * r + (word / 2 ^ k) % 2 - c)) ∧
    (2 * r + (word / 2 ^ k) % 2 < c → DInv rin word c k (2 * q) (2 * r + (word / 2 ^ k) % 2)) := by
  have hp := pow_half hk
  have he := h.eq
  have hw := half_word word k
  have hq := h.qb
  have h0 := h.q0
  have hr0 := h.r0
  have hrc := h.rc
  have hb : 0 ≤ (word / 2 ^ k) % 2 ∧ (word / 2 ^ k) % 2 ≤ 1 := by omega
  generalize (word / 2 ^ k) % 2 = b at *
  generalize hpp : (2 : Int) ^ (64 - (k + 1)) = p at *
  have key : rin * 2 ^ (64 - k) + word / 2 ^ k = 2 * (q * c) + (2 * r + b) := by
    rw [hp, hw]
    have : rin * (2 * p) = 2 * (rin * p) := by rw [Int.mul_left_comm]
    rw [this]; omega
  constructor
  · intro hge
    refine ⟨by omega, by omega, by omega, by omega, by rw [hp]; omega, ?_⟩
    rw [key, Int.add_mul, Int.mul_assoc]; omega
  · intro hlt
    refine ⟨by omega, ?_, by omega, by omega, by rw [hp]; omega, ?_⟩
    · omega
    · rw [key, Int.mul_assoc]
theorem DInv.last {rin word c q : Int} {k : Nat} (h : DInv rin word c k q 0) (hz : word % 2 ^ k = 0) : DInv rin word c 0 (q * 2 ^ k) 0 := by
  have hk := h.k64
  have hpos := pow_pos k
  have he := h.eq
  have hw : word = word / 2 ^ k * 2 ^ k := by
    have := Int.mul_ediv_add_emod word (2 ^ k)
    rw [hz, Int.add_zero, Int.mul_comm] at this
    exact this.symm
  have hpw : (2 : Int) ^ 64 = 2 ^ (64 - k) * 2 ^ k := by rw [← Int.pow_add]; congr 1; omega
  refine ⟨by omega, by omega, h.rc, Int.mul_nonneg h.q0 (Int.le_of_lt hpos), ?_, ?_⟩
  · rw [Nat.sub_zero, hpw]; exact Int.mul_lt_mul_of_pos_right h.qb hpos
  · rw [Nat.sub_zero, hpw, Int.pow_zero, Int.ediv_one]
    have e1 : rin * (2 ^ (64 - k) * 2 ^ k) = rin * 2 ^ (64 - k) * 2 ^ k := by rw [Int.mul_assoc]
    rw [e1]
    have e2 : rin * 2 ^ (64 - k) * 2 ^ k + word = (rin * 2 ^ (64 - k) + word / 2 ^ k) * 2 ^ k := by rw [Int.add_mul, ← hw]
    rw [e2, he, Int.add_zero, Int.add_zero, Int.mul_right_comm]
theorem DInv.done {rin word c q r : Int} (h : DInv rin word c 0 q r) : q = (rin * 18446744073709551616 + word) / c ∧ r = (rin * 18446744073709551616 + word) % c := by
  have he := h.eq
  rw [Nat.sub_zero, Int.pow_zero, Int.ediv_one, show (2 : Int) ^ 64 = 18446744073709551616 from by decide] at he
  have hc : 0 < c := by have := h.r0; have := h.rc; omega
  have := (Int.ediv_emod_unique (a := rin * 18446744073709551616 + word) (b := c) (q := q) (r := r) hc).2 ⟨by rw [he, Int.mul_comm c q]; omega, h.r0, h.rc⟩
  exact ⟨this.1.symm, this.2.symm⟩
theorem DInv.q64 {rin word c q r : Int} {k : Nat} (h : DInv rin word c k q r) : u64 q := by
  refine ⟨h.q0, ?_⟩
  have h1 := h.qb
  have h2 : (2 : Int) ^ (64 - k) ≤ 2 ^ 64 := by
    have e : (2 : Int) ^ 64 = 2 ^ (64 - k) * 2 ^ (64 - (64 - k)) := by rw [← Int.pow_add]; congr 1; have := h.k64; omega
    rw [e]
    have := pow_pos (64 - (64 - k))
    have := pow_pos (64 - k)
    exact le_mul_one (by omega) (by omega)
  have h3 : (2 : Int) ^ 64 = 18446744073709551616 := by decide
  omega
theorem DInv.half {rin word c q r : Int} {k : Nat} (h : DInv rin word c (k + 1) q r) : 2 * q + 1 < 18446744073709551616 := by
  have h1 := h.qb
  have hk := h.k64
  have h2 : 2 * (2 : Int) ^ (64 - (k + 1)) ≤ 2 ^ 64 := by
    rw [← pow_half hk]
    have e : (2 : Int) ^ 64 = 2 ^ (64 - k) * 2 ^ (64 - (64 - k)) := by rw [← Int.pow_add]; congr 1; omega
    rw [e]
    have := pow_pos (64 - (64 - k))
    have := pow_pos (64 - k)
    exact le_mul_one (by omega) (by omega)
  have h3 : (2 : Int) ^ 64 = 18446744073709551616 := by decide
  omega

theorem shl_zero {word : Int} {k : Nat} (hw : u64 word) (hk : k ≤ 64) : word * 2 ^ (64 - k) % 18446744073709551616 = 0 ↔ word % 2 ^ k = 0 := by
  have e : (18446744073709551616 : Int) = 2 ^ k * 2 ^ (64 - k) := by
    rw [← Int.pow_add, show k + (64 - k) = 64 by omega]; decide
  rw [e, Int.mul_comm word, Int.mul_comm (2 ^ k), Int.mul_emod_mul_of_pos _ _ (pow_pos _)]
  constructor
  · intro h
    rcases Int.mul_eq_zero.1 h with h | h
    · have := pow_pos (64 - k); omega
    · exact h
  · intro h; rw [h]; simp
theorem or_bit {x b : Int} (hx : 0 ≤ x) (hb : 0 ≤ b ∧ b ≤ 1) : (((x * 2).toNat ||| b.toNat : Nat) : Int) = x * 2 + b := by
  have := or_add (x := x) (y := b) (k := 1) hx hb.1 (by omega)
  simpa using this

section
variable {P : Program} {β : Base} {E : Env} {L : List HP} {K : Value → List HP → Prop} {d : Option Tmp} {ty : TypeId} {pos : String} {af : Array Edge} {g : Option (Nat × Bool)} {x y : Operand} {t t' : TypeId} {m n : Int} {k' : IntKind}
theorem OpJ.shrV {k : Nat} (hx : E.ev x = some (U m)) (hy : E.ev y = some (.int k' n)) (hn : n = (k : Int)) (hk : k ≤ 64) (h : K (U (m / 2 ^ k)) L) : OpJ P β E L ⟨d, .binOp .shr t x y t', ty, pos, af, g⟩ K := by
  subst hn; exact OpJ.shrU hx hy hk h
theorem OpJ.shlV {k : Nat} (hx : E.ev x = some (U m)) (hy : E.ev y = some (.int k' n)) (hn : n = (k : Int)) (hk : k ≤ 64) (h : K (U (m * 2 ^ k % 18446744073709551616)) L) : OpJ P β E L ⟨d, .binOp .shl t x y t', ty, pos, af, g⟩ K := by
  subst hn; exact OpJ.shl hx hy (by omega) (by rw [shl_u64 m k hk]; exact h)
theorem OpJ.shl1 (hx : E.ev x = some (U m)) (hy : E.ev y = some (.int k' 1)) (h : K (U (m * 2 % 18446744073709551616)) L) : OpJ P β E L ⟨d, .binOp .shl t x y t', ty, pos, af, g⟩ K :=
  OpJ.shlV (k := 1) hx hy rfl (by omega) (by simpa using h)
theorem OpJ.orBit {a : Int} (hx : E.ev x = some (U m)) (hy : E.ev y = some (U n)) (hm : m = a * 2) (ha : 0 ≤ a ∧ a < 9223372036854775808) (hn : 0 ≤ n ∧ n ≤ 1) (h : K (U (a * 2 + n)) L) : OpJ P β E L ⟨d, .binOp .or t x y t', ty, pos, af, g⟩ K :=
  OpJ.bor hx hy (by
    subst hm
    rw [or_u64 _ _ (by constructor <;> omega) (by constructor <;> omega), or_bit ha.1 hn]; exact h)
end

theorem getset {l : List Value} {i : Nat} {v : Value} (h : i < l.length) : (l.set i v)[0 + ((i : Nat) : Int).toNat]? = some v := by simp [h]
theorem div_u64 {w : Int} (h : u64 w) (k : Nat) : u64 (w / 2 ^ k) := by
  refine ⟨Int.ediv_nonneg h.1 (Int.le_of_lt (pow_pos k)), ?_⟩
  have := Int.ediv_le_self (b := 2 ^ k) h.1
  omega
def OI (hi lo c : Int) (i : Nat) (q0 q1 r : Int) : Prop :=
  (i = 0 → q0 = 0 ∧ q1 = 0 ∧ r = 0) ∧ (i = 1 → q0 = hi / c ∧ q1 = 0 ∧ r = hi % c) ∧ (i = 2 → q0 = hi / c ∧ q1 = (hi % c * 18446744073709551616 + lo) / c ∧ r = (hi % c * 18446744073709551616 + lo) % c)
theorem OI.zero {hi lo c : Int} : OI hi lo c 0 0 0 0 := ⟨fun _ => ⟨rfl, rfl, rfl⟩, fun h => by omega, fun h => by omega⟩
theorem OI.next {hi lo c : Int} {i : Nat} {q0 q1 r : Int} (hhi : u64 hi) (hlo : u64 lo) (hc : 0 < c) (h : OI hi lo c i q0 q1 r) (hi2 : i < 2) :
    ∃ w, u64 w ∧ [U hi, U lo][i]? = some (U w) ∧ [U q0, U q1] = [U q0, U q1].set i (U 0) ∧ 0 ≤ r ∧ r < c ∧
      (∀ q r', DInv r w c 0 q r' → ∃ q0' q1', [U q0, U q1].set i (U q) = [U q0', U q1'] ∧ OI hi lo c (i + 1) q0' q1' r') := by
  match i, hi2 with
  | 0, _ =>
    obtain ⟨rfl, rfl, rfl⟩ := h.1 rfl
    refine ⟨hi, hhi, rfl, rfl, by omega, hc, fun q r' hd => ⟨q, 0, rfl, fun h => by omega, fun _ => ?_, fun h => by omega⟩⟩
    have := hd.done
    rw [Int.zero_mul, Int.zero_add] at this
    exact ⟨this.1, rfl, this.2⟩
  | 1, _ =>
    obtain ⟨rfl, rfl, rfl⟩ := h.2.1 rfl
    exact ⟨lo, hlo, rfl, rfl, Int.emod_nonneg _ (by omega), Int.emod_lt_of_pos _ hc, fun q r' hd => ⟨hi / c, q, rfl, fun h => by omega, fun h => by omega, fun _ => ⟨rfl, hd.done.1, hd.done.2⟩⟩⟩
theorem OI.ret {hi lo c q0 q1 r : Int} (hlo : u64 lo) (hc : 0 < c) (h : OI hi lo c 2 q0 q1 r) : tup [.agg ⟨[U q0, U q1]⟩, U r] = .tuple ⟨[.agg ⟨[U ((hi * 18446744073709551616 + lo) / c / 18446744073709551616), U ((hi * 18446744073709551616 + lo) / c % 18446744073709551616)]⟩, U ((hi * 18446744073709551616 + lo) % c)]⟩ := by
  obtain ⟨rfl, h1, h2⟩ := h.2.2 rfl
  have hm := Int.emod_nonneg hi (show c ≠ 0 by omega)
  have hl := Int.emod_lt_of_pos hi hc
  have he := Int.mul_ediv_add_emod hi c
  generalize hx : hi / c = x at *
  generalize hy : hi % c = y at *
  have hs0 : 0 ≤ y * 18446744073709551616 + lo := by omega
  have hq0 : 0 ≤ q1 := by rw [h1]; exact Int.ediv_nonneg hs0 (by omega)
  have hq1 : q1 < 18446744073709551616 := by
    rw [h1]; refine Int.ediv_lt_of_lt_mul hc ?_
    have : (y + 1) * 18446744073709551616 ≤ c * 18446744073709551616 := Int.mul_le_mul_of_nonneg_right (by omega) (by decide)
    omega
  have hr0 : 0 ≤ r := by rw [h2]; exact Int.emod_nonneg _ (by omega)
  have hr1 : r < c := by rw [h2]; exact Int.emod_lt_of_pos _ hc
  have hd := Int.mul_ediv_add_emod (y * 18446744073709551616 + lo) c
  rw [← h1, ← h2] at hd
  have hu := (Int.ediv_emod_unique (a := hi * 18446744073709551616 + lo) (b := c) (q := x * 18446744073709551616 + q1) (r := r) hc).2 ⟨by
    rw [← he, Int.mul_add, Int.add_mul]
    rw [← Int.mul_assoc]
    omega, hr0, hr1⟩
  rw [hu.1, hu.2]
  rw [show (x * 18446744073709551616 + q1) / 18446744073709551616 = x by omega, show (x * 18446744073709551616 + q1) % 18446744073709551616 = q1 by omega]
  rfl
end Go.SL

namespace Go.SL
open Go
def negB (a b c : Int) : Bool := decide (a * b ≠ 0) && ((decide (a < 0) != decide (b < 0)) != decide (c < 0))
def mdSize (a b c mode : Int) : Int := mag a * mag b / mag c + (if awayB mode (negB a b c) (decide (mag a * mag b / mag c % 2 = 1)) (mag a * mag b % mag c) (mag c) = true then 1 else 0)
def mdN (a b c mode : Int) : Int := if mode < 1 ∨ 5 < mode ∨ c = 0 then 0 else signedN (negB a b c) (mdSize a b c mode)
def mdE (a b c mode : Int) : Int := if mode < 1 ∨ 5 < mode then 10 else if c = 0 then 2 else signedE (negB a b c) (mdSize a b c mode)
theorem mag_le {n : Int} (h : i64 n) : 0 ≤ mag n ∧ mag n ≤ 9223372036854775808 := by unfold mag; split <;> constructor <;> omega
theorem mag_pos {n : Int} (h : n ≠ 0) : 0 < mag n := by unfold mag; split <;> omega
theorem mag_zero {n : Int} : mag n = 0 ↔ n = 0 := by unfold mag; split <;> omega
theorem prod_le {a b : Int} (ha : i64 a) (hb : i64 b) : 0 ≤ mag a * mag b ∧ mag a * mag b ≤ 85070591730234615865843651857942052864 := by
  have h1 := mag_le ha; have h2 := mag_le hb
  refine ⟨Int.mul_nonneg h1.1 h2.1, ?_⟩
  have : mag a * mag b ≤ 9223372036854775808 * 9223372036854775808 := Int.mul_le_mul h1.2 h2.2 h2.1 (by decide)
  omega
theorem prod_zero {a b : Int} : mag a * mag b = 0 ↔ a * b = 0 := by
  rw [Int.mul_eq_zero, Int.mul_eq_zero, mag_zero, mag_zero]
theorem quo_le {m c : Int} (hm : 0 ≤ m) (hc : 0 < c) : 0 ≤ m / c ∧ m / c ≤ m := ⟨Int.ediv_nonneg hm (by omega), Int.ediv_le_self _ hm⟩
theorem rem_lt {m c : Int} (hc : 0 < c) : 0 ≤ m % c ∧ m % c < c := ⟨Int.emod_nonneg _ (by omega), Int.emod_lt_of_pos _ hc⟩
theorem signed_big {neg : Bool} {s : Int} (h : 18446744073709551616 ≤ s) : signedN neg s = 0 ∧ signedE neg s = 4 := by
  cases neg
  · simp [signedN, signedE]; omega
  · simp [signedN, signedE]; omega
theorem md_kind {a b c mode : Int} (h : mode < 1 ∨ 5 < mode) : tup [I 0, I 10] = .tuple ⟨[I (mdN a b c mode), I (mdE a b c mode)]⟩ := by
  rw [mdN, mdE, if_pos (by omega), if_pos h]; rfl
theorem md_zero {a b c mode : Int} (h : ¬ (mode < 1 ∨ 5 < mode)) (hc : c = 0) : tup [I 0, I 2] = .tuple ⟨[I (mdN a b c mode), I (mdE a b c mode)]⟩ := by
  rw [mdN, mdE, if_pos (by omega), if_neg h, if_pos hc]; rfl
theorem md_main {a b c mode : Int} (h : ¬ (mode < 1 ∨ 5 < mode)) (hc : c ≠ 0) {n e s : Int} (hn : n = signedN (negB a b c) s) (he : e = signedE (negB a b c) s) (hs : s = mdSize a b c mode) : tup [I n, I e] = .tuple ⟨[I (mdN a b c mode), I (mdE a b c mode)]⟩ := by
  subst hs hn he
  rw [mdN, mdE, if_neg (by omega), if_neg h, if_neg hc]; rfl
theorem md_over {a b c mode : Int} (h : ¬ (mode < 1 ∨ 5 < mode)) (hc : c ≠ 0) (hs : 18446744073709551616 ≤ mdSize a b c mode) : tup [I 0, I 4] = .tuple ⟨[I (mdN a b c mode), I (mdE a b c mode)]⟩ := by
  have := signed_big (neg := negB a b c) hs
  exact md_main h hc this.1.symm this.2.symm rfl
theorem md_size_ge {a b c mode : Int} : mag a * mag b / mag c ≤ mdSize a b c mode := by unfold mdSize; split <;> omega
theorem negB_no {a b c : Int} (pl : 0 ≤ mag a * mag b) (g : (!(decide (mag a * mag b / 18446744073709551616 = 0) && (decide (mag a * mag b % 18446744073709551616 = 0) && true))) = false) : false = negB a b c := by
  have g4 : mag a * mag b / 18446744073709551616 = 0 ∧ mag a * mag b % 18446744073709551616 = 0 := by simpa using g
  have hz : a * b = 0 := prod_zero.1 (by omega)
  simp [negB, hz]
theorem negB_yes {a b c : Int} (pl : 0 ≤ mag a * mag b)  (g : (!(decide (mag a * mag b / 18446744073709551616 = 0) && (decide (mag a * mag b % 18446744073709551616 = 0) && true))) = true) : (!decide ((!decide (decide (a < 0) = decide (b < 0))) = decide (c < 0))) = negB a b c := by
  have g4 : ¬ (mag a * mag b / 18446744073709551616 = 0 ∧ mag a * mag b % 18446744073709551616 = 0) := by intro h; simp [h] at g
  have hz : ¬ a * b = 0 := fun e => (by have := prod_zero.2 e; omega)
  by_cases a < 0 <;> by_cases b < 0 <;> by_cases c < 0 <;> simp [negB, *]
attribute [irreducible] mdN mdE negB
end Go.SL

namespace Go.SL
open Go
abbrev W (n : Int) : Int := IntKind.i64.wrap n
theorem W_i64 (n : Int) : i64 (IntKind.i64.wrap n) := by rw [IntKind.wrap_i64]; constructor <;> omega
abbrev XC (t : Sk) (m : Mv) (c : Co) (la : Option Addr) (nl lc : Nat) (pa : Option Addr) (np pc : Nat) : List Value :=
  [I t.qty, I t.value, I t.price, .slice la nl lc, .slice pa np pc,
   I m.seq, I m.value, St m.item, I m.kind, I m.qty, I m.cost, St m.lot, I m.ref, I c.seq, I c.qty, I c.value, I c.var]
def Ly.ok (l : Ly) : Prop := i64 l.qty ∧ i64 l.value
def Pa.ok (p : Pa) : Prop := i64 p.qty ∧ i64 p.value ∧ i64 p.used ∧ i64 p.usedValue
def Mv.ok (m : Mv) : Prop := i64 m.qty ∧ i64 m.cost
structure Sk.ok (N : Nat) (t : Sk) : Prop where
  nl : t.layers.length ≤ N
  np : t.past.length ≤ N
  ly : ∀ (i : Nat) (l : Ly), t.layers[i]? = some l → l.ok
  pa : ∀ (i : Nat) (p : Pa), t.past[i]? = some p → p.ok
  q : i64 t.qty
  v : i64 t.value
  pr : i64 t.price

theorem Ly.one (x : Ly) : ∀ v ∈ x.c, Value.oneCell' v = true := by simp [Ly.c, Value.oneCell']
theorem Pa.one (x : Pa) : ∀ v ∈ x.c, Value.oneCell' v = true := by simp [Pa.c, Value.oneCell']
def findI {α : Type} (f : α → Bool) (xs : List α) : Option (Nat × α) := match xs.findIdx? f with | some i => (xs[i]?).map fun x => (i, x) | none => none
theorem findI_at {α : Type} {p : α → Bool} {xs : List α} {i : Nat} {x : α} (hx : xs[i]? = some x) (hp : p x = true) (hn : ∀ j y, j < i → xs[j]? = some y → p y = false) : findI p xs = some (i, x) := by
  have : xs.findIdx? p = some i := by
    rw [List.findIdx?_eq_some_iff_getElem]
    obtain ⟨hi, rfl⟩ := List.getElem?_eq_some_iff.1 hx
    exact ⟨hi, hp, fun j hj => by simp [hn j xs[j] hj (List.getElem?_eq_getElem (by omega))]⟩
  rw [findI, this]; simp [hx]
theorem findI_none {α : Type} {p : α → Bool} {xs : List α} (hn : ∀ j y, j < xs.length → xs[j]? = some y → p y = false) : findI p xs = none := by
  have : xs.findIdx? p = none := by
    rw [List.findIdx?_eq_none_iff]
    intro x hx
    obtain ⟨i, hi, rfl⟩ := List.getElem_of_mem hx
    exact hn i _ hi (List.getElem?_eq_getElem hi)
  rw [findI, this]
theorem findI_some {α : Type} {p : α → Bool} {xs : List α} {i : Nat} {x : α} (h : findI p xs = some (i, x)) : xs[i]? = some x ∧ p x = true := by
  unfold findI at h
  split at h
  · rename_i j hj
    rw [List.findIdx?_eq_some_iff_getElem] at hj
    obtain ⟨hlt, hp, _⟩ := hj
    rw [List.getElem?_eq_getElem hlt] at h
    simp only [Option.map_some, Option.some.injEq, Prod.mk.injEq] at h
    obtain ⟨rfl, rfl⟩ := h
    exact ⟨List.getElem?_eq_getElem hlt, hp⟩
  · cases h
def idxOf {α : Type} (r : Option (Nat × α)) : Int := match r with | some (i, _) => (i : Int) | none => -1
def ptrOf {α : Type} (oa : Option Addr) (k : Nat) (r : Option (Nat × α)) : Option Addr := match r, oa with | some (i, _), some a => some ⟨a.block, a.off + i * k, none⟩ | _, _ => none

def partN (v q n : Int) : Int := if q = n then v else mdN v q n 4
theorem mdN_i64 (a b c mode : Int) (ha : i64 a) (hb : i64 b) : i64 (mdN a b c mode) := by
  unfold mdN
  split
  · decide
  · have h0 : 0 ≤ mdSize a b c mode := by
      have := prod_le ha hb
      have hq : 0 ≤ mag a * mag b / mag c := Int.ediv_nonneg this.1 (by unfold mag; split <;> omega)
      unfold mdSize; split <;> omega
    unfold signedN
    split <;> split <;> constructor <;> omega
theorem partN_i64 {v q n : Int} (hv : i64 v) (hq : i64 q) : i64 (partN v q n) := by
  unfold partN; split
  · exact hv
  · exact mdN_i64 _ _ _ _ hv hq

def isPast (kind seq : Int) (p : Pa) : Bool := decide (p.seq = seq) && (decide (kind = 0) || decide (p.kind = kind))
def isLy (seq : Int) (l : Ly) : Bool := decide (l.seq = seq)
def refd (kind : Int) (m : Mv) (ps : List Pa) : Except Int (Nat × Pa) :=
  match findI (isPast kind m.ref) ps with
  | none => .error 28
  | some (i, p) => if W (p.qty - p.used) < m.qty then .error 21 else .ok (i, p)
def errOf {α : Type} (r : Except Int α) : Int := match r with | .error e => e | .ok _ => 0
def okPtr (oa : Option Addr) (k : Nat) (r : Except Int (Nat × Pa)) : Option Addr := match r with | .error _ => none | .ok x => ptrOf oa k (some x)
theorem refd_ok {kind : Int} {m : Mv} {ps : List Pa} (h : errOf (refd kind m ps) = 0) : ∃ i p, refd kind m ps = .ok (i, p) ∧ ps[i]? = some p := by
  unfold refd at h ⊢
  split
  · rename_i hf; rw [hf] at h; cases h
  · rename_i i p hf
    rw [hf] at h
    simp only at h ⊢
    split at h
    · cases h
    · rename_i hlt; rw [if_neg hlt]; exact ⟨i, p, rfl, (findI_some hf).1⟩
def takeV (l : Ly) (q : Int) : Int := partN l.value q l.qty
def takeX (l : Ly) (q : Int) : Ly := { l with qty := W (l.qty - q), value := W (l.value - takeV l q) }
def takeL (ls : List Ly) (i : Nat) (l : Ly) (q : Int) : List Ly := if W (l.qty - q) = 0 then ls.eraseIdx i else ls.set i (takeX l q)
def fRecv (t : Sk) (m : Mv) (c : Co) : Except Int (Sk × Co) :=
  .ok ({ t with layers := t.layers ++ [⟨m.seq, m.lot, m.qty, m.cost⟩], past := t.past ++ [⟨m.seq, m.kind, m.lot, m.qty, m.cost, 0, 0⟩] }, { c with qty := m.qty, value := m.cost })
def issueL : List Ly → Int → Int → List Ly × Int
  | [], _, v => ([], v)
  | l :: ls, left, v => if left ≤ 0 then (l :: ls, v) else
    let q := if l.qty < left then l.qty else left
    if W (l.qty - q) = 0 then issueL ls (W (left - q)) (W (v + takeV l q)) else (takeX l q :: ls, W (v + takeV l q))
def fIssue (t : Sk) (m : Mv) (c : Co) : Except Int (Sk × Co) :=
  if t.qty < m.qty then .error 21 else
    let r := issueL t.layers m.qty 0
    .ok ({ t with layers := r.1, past := t.past ++ [⟨m.seq, m.kind, m.lot, m.qty, r.2, 0, 0⟩] }, { c with qty := W (0 - m.qty), value := W (0 - r.2) })
def backV (p : Pa) (m : Mv) : Int := partN (W (p.value - p.usedValue)) m.qty (W (p.qty - p.used))
def backP (p : Pa) (m : Mv) : Pa := { p with used := W (p.used + m.qty), usedValue := W (p.usedValue + backV p m) }
def fBack (t : Sk) (m : Mv) (c : Co) : Except Int (Sk × Co) :=
  match refd 2 m t.past with
  | .error e => .error e
  | .ok (i, p) => .ok ({ t with layers := t.layers ++ [⟨m.seq, p.lot, m.qty, backV p m⟩], past := t.past.set i (backP p m) }, { c with qty := m.qty, value := backV p m })
def sendP (p : Pa) (m : Mv) : Pa := { p with used := W (p.used + m.qty) }
def fSend (t : Sk) (m : Mv) (c : Co) : Except Int (Sk × Co) :=
  match refd 1 m t.past with
  | .error e => .error e
  | .ok (i, p) => match findI (isLy m.ref) t.layers with
    | none => .error 21
    | some (j, l) => if l.qty < m.qty then .error 21 else
      .ok ({ t with layers := takeL t.layers j l m.qty, past := t.past.set i (sendP p m) }, { c with qty := W (0 - m.qty), value := W (0 - takeV l m.qty), var := W (takeV l m.qty - m.cost) })
def fLand (t : Sk) (m : Mv) (c : Co) : Except Int (Sk × Co) :=
  match refd 1 m t.past with
  | .error e => .error e
  | .ok (_, p) => match findI (isLy m.ref) t.layers with
    | none => .ok (t, { c with var := W (m.cost - c.value) })
    | some (j, l) => .ok ({ t with layers := t.layers.set j { l with value := W (l.value + partN m.cost l.qty p.qty) } }, { c with value := partN m.cost l.qty p.qty, var := W (m.cost - partN m.cost l.qty p.qty) })
def fDo (t : Sk) (m : Mv) (c : Co) : Except Int (Sk × Co) :=
  if m.kind = 1 then fRecv t m c else if m.kind = 2 then fIssue t m c else if m.kind = 3 then fBack t m c else if m.kind = 4 then fSend t m c else if m.kind = 5 then fLand t m c else .error 10
def overB (t : Sk) (c : Co) : Bool := t.layers.any (fun l => farB l.value) || (decide (1000000000 < t.qty) || farB t.value || farB c.var)
def summed (t : Sk) (c : Co) : Sk := { t with qty := W (t.qty + c.qty), value := W (t.value + c.value) }
def fStep (s : Sk) (m : Mv) : Except Int (Sk × Co) :=
  if m.one ≠ 0 then .error m.one else if (findI (isPast 0 m.seq) s.past).isSome = true then .error 8 else
  match fDo s m ⟨m.seq, 0, 0, 0⟩ with
  | .error e => .error e
  | .ok (t, c) => if overB (summed t c) c = true then .error 4 else .ok (summed t c, c)
def Aft (TX TL TP bx : Nat) (m : Mv) (r : Except Int (Sk × Co)) (x : Option Addr × Nat × Option Addr × Nat) : List HP :=
  match r with
  | .error _ => []
  | .ok (t, c) => [pt bx (blk (XC t m c x.1 t.layers.length x.2.1 x.2.2.1 t.past.length x.2.2.2) TX), own TL 4 x.1 t.layers.length x.2.1 (t.layers.flatMap Ly.c), own TP 7 x.2.2.1 t.past.length x.2.2.2 (t.past.flatMap Pa.c)]
theorem errOf_ne {α : Type} {r : Except Int α} (h : errOf r ≠ 0) : ∃ e, r = .error e := by
  cases r with
  | error e => exact ⟨e, rfl⟩
  | ok x => exact absurd rfl h
def issM (ls : List Ly) (left : Int) : Nat := ls.length + (if 0 < left then 1 else 0)
theorem issue_step {l : Ly} {ls : List Ly} {left v : Int} (h0 : 0 < left) (hl : i64 left) (hq : i64 l.qty) :
    issueL (takeL (l :: ls) 0 l (if l.qty < left then l.qty else left)) (W (left - (if l.qty < left then l.qty else left))) (W (v + takeV l (if l.qty < left then l.qty else left))) = issueL (l :: ls) left v ∧
    issM (takeL (l :: ls) 0 l (if l.qty < left then l.qty else left)) (W (left - (if l.qty < left then l.qty else left))) < issM (l :: ls) left := by
  have hnl : ¬ left ≤ 0 := by omega
  have hdef : issueL (l :: ls) left v = (if W (l.qty - (if l.qty < left then l.qty else left)) = 0 then issueL ls (W (left - (if l.qty < left then l.qty else left))) (W (v + takeV l (if l.qty < left then l.qty else left))) else (takeX l (if l.qty < left then l.qty else left) :: ls, W (v + takeV l (if l.qty < left then l.qty else left)))) := by
    rw [issueL, if_neg hnl]
  generalize hqq : (if l.qty < left then l.qty else left) = q at hdef ⊢
  by_cases hz : W (l.qty - q) = 0
  · rw [hdef, if_pos hz, takeL, if_pos hz]
    refine ⟨rfl, ?_⟩
    simp only [issM, List.eraseIdx_cons_zero, List.length_cons, if_pos h0]
    split <;> omega
  · have hql : q = left := by
      split at hqq
      · subst hqq; rw [Int.sub_self] at hz; exact absurd (by decide) hz
      · exact hqq.symm
    have hw0 : W (left - q) = 0 := by rw [hql, Int.sub_self]; decide
    rw [hdef, if_neg hz, takeL, if_neg hz, hw0]
    refine ⟨?_, ?_⟩
    · rw [List.set_cons_zero, issueL, if_pos (Int.le_refl 0)]
    · simp only [issM, List.set_cons_zero, List.length_cons, if_pos h0]; simp
theorem issue_done {ls : List Ly} {left v : Int} (h : ¬ (0 < left ∧ 0 < (ls.length : Int))) : issueL ls left v = (ls, v) := by
  cases ls with
  | nil => rfl
  | cons l ls => rw [issueL, if_pos (by simp only [List.length_cons] at h; omega)]
theorem takeX_ok (l : Ly) (q : Int) : (takeX l q).ok := ⟨W_i64 _, W_i64 _⟩
theorem takeL_ok {ls : List Ly} {i : Nat} {l : Ly} {q : Int} (h : ∀ (j : Nat) (x : Ly), ls[j]? = some x → x.ok) : ∀ (j : Nat) (x : Ly), (takeL ls i l q)[j]? = some x → x.ok := by
  intro j x hx
  unfold takeL at hx
  split at hx
  · have := List.mem_of_getElem? hx
    have := List.mem_of_mem_eraseIdx this
    obtain ⟨j', hj', he⟩ := List.getElem_of_mem this
    exact h j' x (by rw [List.getElem?_eq_getElem hj', he])
  · rw [List.getElem?_set] at hx
    split at hx
    · split at hx
      · cases hx; exact takeX_ok _ _
      · cases hx
    · exact h j x hx
theorem takeL_len {ls : List Ly} {i : Nat} {l : Ly} {q : Int} : (takeL ls i l q).length ≤ ls.length := by
  unfold takeL; split
  · rw [List.length_eraseIdx]; split <;> omega
  · simp
theorem overB_far {t : Sk} {c : Co} {i : Nat} {l : Ly} (hx : t.layers[i]? = some l) (h : farB l.value = true) : overB t c = true := by
  have : t.layers.any (fun l => farB l.value) = true := List.any_eq_true.2 ⟨l, List.mem_of_getElem? hx, h⟩
  unfold overB; rw [this, Bool.true_or]
theorem overB_rest {t : Sk} {c : Co} (h : ∀ (j : Nat) (y : Ly), j < t.layers.length → t.layers[j]? = some y → farB y.value = false) : overB t c = (decide (1000000000 < t.qty) || farB t.value || farB c.var) := by
  have : t.layers.any (fun l => farB l.value) = false := by
    rw [List.any_eq_false]
    intro l hl
    obtain ⟨j, hj, rfl⟩ := List.getElem_of_mem hl
    rw [h j _ hj (List.getElem?_eq_getElem hj)]; decide
  unfold overB; rw [this, Bool.false_or]
attribute [irreducible] findI partN isPast isLy
end Go.SL

namespace Go.SL
open Go
def StV (r : Except Int (Sk × Co)) (x : Option Addr × Nat × Option Addr × Nat) : Value :=
  match r with
  | .error e => .tuple ⟨[.agg ⟨[I 0, I 0, I 0, .slice none 0 0, .slice none 0 0]⟩, .agg ⟨[I 0, I 0, I 0, I 0]⟩, I e]⟩
  | .ok (t, c) => .tuple ⟨[.agg ⟨t.c x.1 x.2.1 x.2.2.1 x.2.2.2⟩, .agg ⟨c.c⟩, I 0]⟩
def StB (TL TP : Nat) (r : Except Int (Sk × Co)) (x : Option Addr × Nat × Option Addr × Nat) : List HP :=
  match r with
  | .error _ => []
  | .ok (t, _) => [own TL 4 x.1 t.layers.length x.2.1 (t.layers.flatMap Ly.c), own TP 7 x.2.2.1 t.past.length x.2.2.2 (t.past.flatMap Pa.c)]
theorem ptrOf_isSome {α : Type} {a : Addr} {k : Nat} {r : Option (Nat × α)} : (ptrOf (some a) k r).isSome = r.isSome := by cases r <;> rfl
theorem fDo_1 {t : Sk} {m : Mv} {c : Co} (h : m.kind = 1) : fDo t m c = fRecv t m c := by unfold fDo; rw [if_pos h]
theorem fDo_2 {t : Sk} {m : Mv} {c : Co} (h : m.kind = 2) : fDo t m c = fIssue t m c := by unfold fDo; rw [if_neg (by omega), if_pos h]
theorem fDo_3 {t : Sk} {m : Mv} {c : Co} (h : m.kind = 3) : fDo t m c = fBack t m c := by unfold fDo; rw [if_neg (by omega), if_neg (by omega), if_pos h]
theorem fDo_4 {t : Sk} {m : Mv} {c : Co} (h : m.kind = 4) : fDo t m c = fSend t m c := by unfold fDo; rw [if_neg (by omega), if_neg (by omega), if_neg (by omega), if_pos h]
theorem fDo_5 {t : Sk} {m : Mv} {c : Co} (h : m.kind = 5) : fDo t m c = fLand t m c := by unfold fDo; rw [if_neg (by omega), if_neg (by omega), if_neg (by omega), if_neg (by omega), if_pos h]
theorem fDo_0 {t : Sk} {m : Mv} {c : Co} (h : ¬ m.kind = 1 ∧ ¬ m.kind = 2 ∧ ¬ m.kind = 3 ∧ ¬ m.kind = 4 ∧ ¬ m.kind = 5) : fDo t m c = .error 10 := by unfold fDo; rw [if_neg h.1, if_neg h.2.1, if_neg h.2.2.1, if_neg h.2.2.2.1, if_neg h.2.2.2.2]
abbrev okL (ls : List Ly) : Prop := ∀ (i : Nat) (l : Ly), ls[i]? = some l → l.ok
theorem all_append1 {α : Type} {Q : α → Prop} {xs : List α} {x : α} (h : ∀ (i : Nat) (y : α), xs[i]? = some y → Q y) (hx : Q x) : ∀ (i : Nat) (y : α), (xs ++ [x])[i]? = some y → Q y := by
  intro i y hy
  rcases List.mem_append.1 (List.mem_of_getElem? hy) with hm | hm
  · obtain ⟨j, hj, he⟩ := List.getElem_of_mem hm
    exact h j y (by rw [List.getElem?_eq_getElem hj, he])
  · rw [List.mem_singleton.1 hm]; exact hx
theorem all_set {α : Type} {Q : α → Prop} {xs : List α} {x : α} {k : Nat} (h : ∀ (i : Nat) (y : α), xs[i]? = some y → Q y) (hx : Q x) : ∀ (i : Nat) (y : α), (xs.set k x)[i]? = some y → Q y := by
  intro i y hy
  rw [List.getElem?_set] at hy
  split at hy
  · split at hy
    · cases hy; exact hx
    · cases hy
  · exact h i y hy
theorem issueL_ok : ∀ (ls : List Ly) (left v : Int), okL ls → i64 v → okL (issueL ls left v).1 ∧ i64 (issueL ls left v).2 ∧ (issueL ls left v).1.length ≤ ls.length
  | [], left, v, h, hv => ⟨h, hv, Nat.le_refl _⟩
  | l :: ls, left, v, h, hv => by
    have ht : okL ls := fun i x hx => h (i + 1) x (by simpa using hx)
    unfold issueL
    split
    · exact ⟨h, hv, Nat.le_refl _⟩
    · simp only
      generalize (if l.qty < left then l.qty else left) = q
      split
      · have := issueL_ok ls (W (left - q)) (W (v + takeV l q)) ht (W_i64 _)
        exact ⟨this.1, this.2.1, by simp only [List.length_cons]; omega⟩
      · refine ⟨fun i x hx => ?_, W_i64 _, by simp⟩
        cases i with
        | zero => simp at hx; subst hx; exact takeX_ok _ _
        | succ i => exact ht i x (by simpa using hx)
theorem refd_spec {kind : Int} {m : Mv} {ps : List Pa} {i : Nat} {p : Pa} (h : refd kind m ps = .ok (i, p)) : ps[i]? = some p ∧ isPast kind m.ref p = true ∧ m.qty ≤ W (p.qty - p.used) := by
  unfold refd at h
  split at h
  · cases h
  · rename_i j q hf
    split at h
    · cases h
    · rename_i hlt; cases h; exact ⟨(findI_some hf).1, (findI_some hf).2, by omega⟩
theorem fDo_ok {N : Nat} {s t : Sk} {m : Mv} {c c' : Co} (hs : s.ok N) (hm : m.ok) (h : fDo s m c = .ok (t, c')) : t.ok (N + 1) := by
  have hnl := hs.nl; have hnp := hs.np
  unfold fDo at h
  split at h
  · unfold fRecv at h
    cases h
    exact ⟨by simp; omega, by simp; omega, all_append1 hs.ly ⟨hm.1, hm.2⟩, all_append1 hs.pa ⟨hm.1, hm.2, (show i64 0 by decide), (show i64 0 by decide)⟩, hs.q, hs.v, hs.pr⟩
  split at h
  · unfold fIssue at h
    split at h
    · cases h
    · cases h
      have := issueL_ok s.layers m.qty 0 hs.ly (by decide)
      exact ⟨by simp only; omega, by simp; omega, this.1, all_append1 hs.pa ⟨hm.1, this.2.1, (show i64 0 by decide), (show i64 0 by decide)⟩, hs.q, hs.v, hs.pr⟩
  split at h
  · unfold fBack at h
    split at h
    · cases h
    · rename_i i p hr
      cases h
      obtain ⟨hx, _, _⟩ := refd_spec hr
      have hp := hs.pa i p hx
      have hv : i64 (backV p m) := partN_i64 (W_i64 _) hm.1
      exact ⟨by simp; omega, by simp; omega, all_append1 hs.ly ⟨hm.1, hv⟩, all_set hs.pa ⟨hp.1, hp.2.1, W_i64 _, W_i64 _⟩, hs.q, hs.v, hs.pr⟩
  split at h
  · unfold fSend at h
    split at h
    · cases h
    · rename_i i p hr
      split at h
      · cases h
      · rename_i j l hf
        split at h
        · cases h
        · cases h
          obtain ⟨hx, _, _⟩ := refd_spec hr
          have hp := hs.pa i p hx
          have := @takeL_len s.layers j l m.qty
          exact ⟨by simp only; omega, by simp; omega, takeL_ok hs.ly, all_set hs.pa ⟨hp.1, hp.2.1, W_i64 _, hp.2.2.2⟩, hs.q, hs.v, hs.pr⟩
  split at h
  · unfold fLand at h
    split at h
    · cases h
    · rename_i i p hr
      split at h
      · cases h; exact ⟨by omega, by omega, hs.ly, hs.pa, hs.q, hs.v, hs.pr⟩
      · rename_i j l hf
        cases h
        have hl := hs.ly j l (findI_some hf).1
        exact ⟨by simp; omega, by simp; omega, all_set hs.ly ⟨hl.1, W_i64 _⟩, hs.pa, hs.q, hs.v, hs.pr⟩
  · cases h
theorem summed_ok {N : Nat} {t : Sk} {c : Co} (h : t.ok N) : (summed t c).ok N := ⟨h.nl, h.np, h.ly, h.pa, W_i64 _, W_i64 _, h.pr⟩
theorem refd_err {kind : Int} {m : Mv} {ps : List Pa} {e : Int} (h : refd kind m ps = .error e) : e ≠ 0 := by
  unfold refd at h
  split at h
  · cases h; decide
  · split at h
    · cases h; decide
    · cases h
theorem fDo_err {s : Sk} {m : Mv} {c : Co} {e : Int} (h : fDo s m c = .error e) : e ≠ 0 := by
  unfold fDo at h
  split at h
  · cases h
  split at h
  · unfold fIssue at h; split at h
    · cases h; decide
    · cases h
  split at h
  · unfold fBack at h; split at h
    · rename_i e' he; cases h; exact refd_err he
    · cases h
  split at h
  · unfold fSend at h; split at h
    · rename_i e' he; cases h; exact refd_err he
    · split at h
      · cases h; decide
      · split at h
        · cases h; decide
        · cases h
  split at h
  · unfold fLand at h; split at h
    · rename_i e' he; cases h; exact refd_err he
    · split at h <;> cases h
  · cases h; decide
end Go.SL

namespace Go.SL
open Go
theorem Gives.refl : ∀ L : List HP, Gives L L
  | [] => .nil
  | A :: L => .cons .here (Gives.refl L)
theorem RunL.cutG {P : Program} {β : Base} {n : Nat} {arr : Array Oper} {os : List Oper} {E Ek : Env} {L : List HP} {K : Env → List HP → Prop} {ks : List Nat} {t : Nat} {v : Value} (hk : Keep ks E Ek) (h1 : RunL P β n arr os E L fun E' L' => Keep (t :: ks) E' ((t, v) :: Ek) ∧ Gives L' L) (h2 : K ((t, v) :: Ek) L) : RunL P β n arr os E L K :=
  fun a w ha hs Q hQ => h1 a w ha hs Q fun a' w' E' L' ⟨hK, hL⟩ ha' hs' => hQ a' w' _ _ h2 (ha'.sub hK.sub) (hs'.gives hL)
theorem isPast_eq {kind seq : Int} (h : kind ≠ 0) : isPast kind seq = fun p => decide (p.kind = kind ∧ p.seq = seq) := by
  funext p
  unfold isPast
  by_cases h1 : p.seq = seq <;> by_cases h2 : p.kind = kind <;> simp [h, h1, h2]
theorem findIdx_idx {α : Type} {f : α → Bool} {xs : List α} : findIdx f xs = idxOf (findI f xs) := by
  unfold findIdx findI
  cases h : xs.findIdx? f with
  | none => rfl
  | some i =>
    obtain ⟨hi, _, _⟩ := List.findIdx?_eq_some_iff_getElem.1 h
    simp [List.getElem?_eq_getElem hi, idxOf]
def okIdx (r : Except Int (Nat × Pa)) : Int := match r with | .error _ => 0 | .ok (i, _) => (i : Int)
def priceV (m : Mv) (p : Int) : Int := if mulOk m.qty p = true then mulN m.qty p else 0
def priceE (m : Mv) (p : Int) : Int := if mulOk m.qty p = true then 0 else 4
def sRecv (t : Sk) (m : Mv) (c : Co) : Except Int (Sk × Co) :=
  if priceE m t.price ≠ 0 then .error (priceE m t.price) else
    .ok ({ t with past := t.past ++ [⟨m.seq, m.kind, m.lot, m.qty, m.cost, 0, 0⟩] }, ⟨0, m.qty, priceV m t.price, W (m.cost - priceV m t.price)⟩)
def sIssue (t : Sk) (m : Mv) (c : Co) : Except Int (Sk × Co) :=
  if t.qty < m.qty then .error 21 else if priceE m t.price ≠ 0 then .error (priceE m t.price) else
    .ok ({ t with past := t.past ++ [⟨m.seq, m.kind, m.lot, m.qty, priceV m t.price, 0, 0⟩] }, ⟨0, W (0 - m.qty), W (0 - priceV m t.price), 0⟩)
def sCust (t : Sk) (m : Mv) (c : Co) : Except Int (Sk × Co) :=
  match refd 2 m t.past with
  | .error e => .error e
  | .ok (i, p) => if priceE m t.price ≠ 0 then .error (priceE m t.price) else
    .ok ({ t with past := t.past.set i (backP p m) }, ⟨0, m.qty, priceV m t.price, W (backV p m - priceV m t.price)⟩)
def sSupp (t : Sk) (m : Mv) (c : Co) : Except Int (Sk × Co) :=
  match refd 1 m t.past with
  | .error e => .error e
  | .ok (i, p) => if t.qty < m.qty then .error 21 else if priceE m t.price ≠ 0 then .error (priceE m t.price) else
    .ok ({ t with past := t.past.set i (sendP p m) }, ⟨0, W (0 - m.qty), W (0 - priceV m t.price), W (priceV m t.price - m.cost)⟩)
def sLand (t : Sk) (m : Mv) (c : Co) : Except Int (Sk × Co) :=
  match refd 1 m t.past with
  | .error e => .error e
  | .ok _ => .ok (t, ⟨0, 0, 0, m.cost⟩)
def reprV (t : Sk) (m : Mv) : Int := mulN t.qty (subN m.cost t.price)
def sRepr (t : Sk) (m : Mv) (c : Co) : Except Int (Sk × Co) :=
  if (!subOk m.cost t.price || !mulOk t.qty (subN m.cost t.price) || !withinB (reprV t m)) = true then .error 4 else
    .ok ({ t with price := m.cost }, ⟨0, 0, reprV t m, W (0 - reprV t m)⟩)
def sDo (t : Sk) (m : Mv) (c : Co) : Except Int (Sk × Co) :=
  if m.kind = 1 then sRecv t m c else if m.kind = 2 then sIssue t m c else if m.kind = 3 then sCust t m c else if m.kind = 4 then sSupp t m c else if m.kind = 5 then sLand t m c else sRepr t m c
def sSum (s t : Sk) (c : Co) : Sk := { t with qty := W (s.qty + c.qty), value := addN s.value c.value }
def sOver (s t : Sk) (c : Co) : Bool := !addOk s.value c.value || decide (1000000000 < W (s.qty + c.qty)) || !withinB (addN s.value c.value) || !withinB c.var
def sStep (s : Sk) (m : Mv) : Except Int (Sk × Co) :=
  if m.one ≠ 0 then .error m.one else if ((findI (isPast 1 m.seq) s.past).isSome || (findI (isPast 2 m.seq) s.past).isSome) = true then .error 8 else
  match sDo s m ⟨0, 0, 0, 0⟩ with
  | .error e => .error e
  | .ok (t, c) => if sOver s t c = true then .error 4 else .ok (sSum s t c, { c with seq := m.seq })
theorem subN_i64 {a b : Int} : i64 (subN a b) := by
  unfold subN
  split
  · assumption
  · decide
theorem sDo_1 {t : Sk} {m : Mv} {c : Co} (h : m.kind = 1) : sDo t m c = sRecv t m c := by unfold sDo; rw [if_pos h]
theorem sDo_2 {t : Sk} {m : Mv} {c : Co} (h : m.kind = 2) : sDo t m c = sIssue t m c := by unfold sDo; rw [if_neg (by omega), if_pos h]
theorem sDo_3 {t : Sk} {m : Mv} {c : Co} (h : m.kind = 3) : sDo t m c = sCust t m c := by unfold sDo; rw [if_neg (by omega), if_neg (by omega), if_pos h]
theorem sDo_4 {t : Sk} {m : Mv} {c : Co} (h : m.kind = 4) : sDo t m c = sSupp t m c := by unfold sDo; rw [if_neg (by omega), if_neg (by omega), if_neg (by omega), if_pos h]
theorem sDo_5 {t : Sk} {m : Mv} {c : Co} (h : m.kind = 5) : sDo t m c = sLand t m c := by unfold sDo; rw [if_neg (by omega), if_neg (by omega), if_neg (by omega), if_neg (by omega), if_pos h]
theorem sDo_6 {t : Sk} {m : Mv} {c : Co} (h : ¬ m.kind = 1 ∧ ¬ m.kind = 2 ∧ ¬ m.kind = 3 ∧ ¬ m.kind = 4 ∧ ¬ m.kind = 5) : sDo t m c = sRepr t m c := by unfold sDo; rw [if_neg h.1, if_neg h.2.1, if_neg h.2.2.1, if_neg h.2.2.2.1, if_neg h.2.2.2.2]
theorem idx_some {α : Type} {r : Option (Nat × α)} : decide (0 ≤ idxOf r) = r.isSome := by
  cases r with
  | none => rfl
  | some x => simp only [idxOf, Option.isSome_some]; exact decide_eq_true (by omega)
theorem priceV_i64 {m : Mv} {p : Int} : i64 (priceV m p) := by
  unfold priceV
  split
  · rename_i h; unfold mulOk at h; unfold mulN; split
    · rename_i h2; exact h2
    · decide
  · decide
end Go.SL

namespace Go.SL
open Go
theorem mulN_i64 {a b : Int} : i64 (mulN a b) := by
  unfold mulN
  split
  · assumption
  · decide
theorem sDo_ok {N : Nat} {s t : Sk} {m : Mv} {c c' : Co} (hs : s.ok N) (hm : m.ok) (h : sDo s m c = .ok (t, c')) : t.ok (N + 1) ∧ i64 c'.value := by
  have hnl := hs.nl; have hnp := hs.np
  unfold sDo at h
  split at h
  · unfold sRecv at h
    split at h
    · cases h
    · cases h
      exact ⟨⟨by simp only; omega, by simp; omega, hs.ly, all_append1 hs.pa ⟨hm.1, hm.2, (show i64 0 by decide), (show i64 0 by decide)⟩, hs.q, hs.v, hs.pr⟩, priceV_i64⟩
  split at h
  · unfold sIssue at h
    split at h
    · cases h
    · split at h
      · cases h
      · cases h
        exact ⟨⟨by simp only; omega, by simp; omega, hs.ly, all_append1 hs.pa ⟨hm.1, priceV_i64, (show i64 0 by decide), (show i64 0 by decide)⟩, hs.q, hs.v, hs.pr⟩, W_i64 _⟩
  split at h
  · unfold sCust at h
    split at h
    · cases h
    · rename_i i p hr
      split at h
      · cases h
      · cases h
        have hp := hs.pa i p (refd_spec hr).1
        exact ⟨⟨by simp only; omega, by simp; omega, hs.ly, all_set hs.pa ⟨hp.1, hp.2.1, W_i64 _, W_i64 _⟩, hs.q, hs.v, hs.pr⟩, priceV_i64⟩
  split at h
  · unfold sSupp at h
    split at h
    · cases h
    · rename_i i p hr
      split at h
      · cases h
      · split at h
        · cases h
        · cases h
          have hp := hs.pa i p (refd_spec hr).1
          exact ⟨⟨by simp only; omega, by simp; omega, hs.ly, all_set hs.pa ⟨hp.1, hp.2.1, W_i64 _, hp.2.2.2⟩, hs.q, hs.v, hs.pr⟩, W_i64 _⟩
  split at h
  · unfold sLand at h
    split at h
    · cases h
    · cases h; exact ⟨⟨by omega, by omega, hs.ly, hs.pa, hs.q, hs.v, hs.pr⟩, (show i64 0 by decide)⟩
  · unfold sRepr at h
    split at h
    · cases h
    · cases h; exact ⟨⟨by simp only; omega, by simp only; omega, hs.ly, hs.pa, hs.q, hs.v, hm.2⟩, mulN_i64⟩
theorem sDo_err {s : Sk} {m : Mv} {c : Co} {e : Int} (h : sDo s m c = .error e) : e ≠ 0 := by
  unfold sDo at h
  split at h
  · unfold sRecv at h; split at h
    · rename_i he; cases h; exact he
    · cases h
  split at h
  · unfold sIssue at h; split at h
    · cases h; decide
    · split at h
      · rename_i he; cases h; exact he
      · cases h
  split at h
  · unfold sCust at h; split at h
    · rename_i he; cases h; exact refd_err he
    · split at h
      · rename_i he; cases h; exact he
      · cases h
  split at h
  · unfold sSupp at h; split at h
    · rename_i he; cases h; exact refd_err he
    · split at h
      · cases h; decide
      · split at h
        · rename_i he; cases h; exact he
        · cases h
  split at h
  · unfold sLand at h; split at h
    · rename_i he; cases h; exact refd_err he
    · cases h
  · unfold sRepr at h; split at h
    · cases h; decide
    · cases h
end Go.SL

namespace Go.SL
open Go
section
variable {P : Program} {β : Base} {n : Nat} {arr : Array Oper} {os : List Oper} {E : Env} {L M1 M2 : List HP} {A B : HP} {K : Env → List HP → Prop}
theorem RunL.pack (p1 : Pick L A M1) (p2 : Pick M1 B M2) (h : RunL P β n arr os E (star A B :: M2) K) : RunL P β n arr os E L K :=
  RunL.mapL (L' := star A B :: M2) (fun w hs => Has.mono hs fun _ hh => star_assoc (star_mono (fun _ => id) (fun _ => p2.star) (p1.star hh))) h
theorem RunL.unpack (p1 : Pick L (star A B) M1) (h : RunL P β n arr os E (A :: B :: M1) K) : RunL P β n arr os E L K :=
  RunL.mapL (L' := A :: B :: M1) (fun w hs => Has.mono hs fun _ hh => star_assoc' (p1.star hh)) h
end
abbrev SC (t : Sk) (la : Option Addr) (nl lc : Nat) (pa : Option Addr) (np pc : Nat) : List Value := [I t.qty, I t.value, I t.price, .slice la nl lc, .slice pa np pc]
def aRecv (t : Sk) (m : Mv) : Except Int (Sk × Co) := .ok ({ t with past := t.past ++ [⟨m.seq, m.kind, m.lot, m.qty, m.cost, 0, 0⟩] }, ⟨m.seq, m.qty, m.cost, 0⟩)
def avgV (t : Sk) (m : Mv) : Int := partN t.value m.qty t.qty
def aIssue (t : Sk) (m : Mv) : Except Int (Sk × Co) :=
  if t.qty < m.qty then .error 21 else .ok ({ t with past := t.past ++ [⟨m.seq, m.kind, m.lot, m.qty, avgV t m, 0, 0⟩] }, ⟨m.seq, W (0 - m.qty), W (0 - avgV t m), 0⟩)
def aBack (t : Sk) (m : Mv) : Except Int (Sk × Co) :=
  match refd 2 m t.past with
  | .error e => .error e
  | .ok (i, p) => .ok ({ t with past := t.past.set i (backP p m) }, ⟨m.seq, m.qty, backV p m, 0⟩)
def aSend (t : Sk) (m : Mv) : Except Int (Sk × Co) :=
  match refd 1 m t.past with
  | .error e => .error e
  | .ok (i, p) => if t.qty < m.qty then .error 21 else .ok ({ t with past := t.past.set i (sendP p m) }, ⟨m.seq, W (0 - m.qty), W (0 - avgV t m), W (avgV t m - m.cost)⟩)
def landV (t : Sk) (p : Pa) (m : Mv) : Int := partN m.cost (if t.qty < p.qty then t.qty else p.qty) p.qty
def aLand (t : Sk) (m : Mv) : Except Int (Sk × Co) :=
  match refd 1 m t.past with
  | .error e => .error e
  | .ok (_, p) => .ok (t, ⟨m.seq, 0, landV t p m, W (m.cost - landV t p m)⟩)
def aDo (t : Sk) (m : Mv) : Except Int (Sk × Co) :=
  if m.kind = 1 then aRecv t m else if m.kind = 2 then aIssue t m else if m.kind = 3 then aBack t m else if m.kind = 4 then aSend t m else if m.kind = 5 then aLand t m else .error 10
def aOver (t : Sk) (c : Co) : Bool := decide (1000000000 < t.qty) || largeB t.value || largeB c.var
def aStep (s : Sk) (m : Mv) : Except Int (Sk × Co) :=
  if m.one ≠ 0 then .error m.one else if (findI (isPast 0 m.seq) s.past).isSome = true then .error 8 else
  match aDo s m with
  | .error e => .error e
  | .ok (t, c) => if aOver (summed t c) c = true then .error 4 else .ok (summed t c, c)
def avC (r : Except Int (Sk × Co)) : Co := match r with | .error _ => ⟨0, 0, 0, 0⟩ | .ok (_, c) => c
abbrev AvV (r : Except Int (Sk × Co)) : Value := .tuple ⟨[.agg ⟨(avC r).c⟩, I (errOf r)]⟩
def AvB (TS TP bx : Nat) (la : Option Addr) (nl lc : Nat) (t0 : Sk) (r : Except Int (Sk × Co)) (x : Option Addr × Nat) : List HP :=
  match r with
  | .error _ => [pt bx (blk (SC t0 la nl lc x.1 t0.past.length x.2) TS), own TP 7 x.1 t0.past.length x.2 (t0.past.flatMap Pa.c)]
  | .ok (t, _) => [pt bx (blk (SC t la nl lc x.1 t.past.length x.2) TS), own TP 7 x.1 t.past.length x.2 (t.past.flatMap Pa.c)]
theorem Pick.app : ∀ {L : List HP} {A : HP} {M : List HP}, Pick L A M → ∀ N, Pick (L ++ N) A (M ++ N)
  | _, _, _, .here, _ => .here
  | _, _, _, .there p, N => .there (p.app N)
theorem Gives.mono : ∀ {L M : List HP}, Gives L M → ∀ N, Gives (L ++ N) M
  | _, _, .nil, _ => .nil
  | _, _, .cons p g, N => .cons (p.app N) (g.mono N)
theorem Gives.app (L N : List HP) : Gives (L ++ N) L := (Gives.refl L).mono N
end Go.SL

namespace Go.SL
open Go
def lotB (lot : ByteArray) (l : Ly) : Bool := decide (l.lot = lot) || !(Op.bytesLess l.lot.toList lot.toList || decide (l.lot = lot))
def lotI (lot : ByteArray) (ls : List Ly) : Nat := match findI (lotB lot) ls with | some (i, _) => i | none => ls.length
def lotF (lot : ByteArray) (ls : List Ly) : Option (Nat × Ly) := match findI (lotB lot) ls with | some (i, l) => if l.lot = lot then some (i, l) else none | none => none
def bump (l : Ly) (q v : Int) : Ly := { l with qty := W (l.qty + q), value := W (l.value + v) }
def newLy (lot : ByteArray) : Ly := ⟨0, lot, 0, 0⟩
def insL (ls : List Ly) (i : Nat) (x : Ly) : List Ly := ls.take i ++ x :: ls.drop i
def addLot (ls : List Ly) (lot : ByteArray) (q v : Int) : List Ly :=
  match lotF lot ls with | some (i, l) => ls.set i (bump l q v) | none => insL ls (lotI lot ls) (bump (newLy lot) q v)
def qtyLot (ls : List Ly) (lot : ByteArray) : Int := match lotF lot ls with | some (_, l) => l.qty | none => 0
def lRecv (t : Sk) (m : Mv) : Except Int (Sk × Co) :=
  if m.lot = ⟨#[]⟩ then .error 22 else .ok ({ t with layers := addLot t.layers m.lot m.qty m.cost, past := t.past ++ [⟨m.seq, m.kind, m.lot, m.qty, m.cost, 0, 0⟩] }, ⟨0, m.qty, m.cost, 0⟩)
def lIssue (t : Sk) (m : Mv) : Except Int (Sk × Co) :=
  match lotF m.lot t.layers with
  | none => .error 22
  | some (i, l) => if m.lot = ⟨#[]⟩ then .error 22 else if l.qty < m.qty then .error 21 else
    .ok ({ t with layers := takeL t.layers i l m.qty, past := t.past ++ [⟨m.seq, m.kind, m.lot, m.qty, takeV l m.qty, 0, 0⟩] }, ⟨0, W (0 - m.qty), W (0 - takeV l m.qty), 0⟩)
def lBackR (t : Sk) (m : Mv) (i : Nat) (p : Pa) : Except Int (Sk × Co) :=
  .ok ({ t with layers := addLot t.layers p.lot m.qty (backV p m), past := t.past.set i (backP p m) }, ⟨0, m.qty, backV p m, 0⟩)
def lSendR (t : Sk) (m : Mv) (i : Nat) (p : Pa) : Except Int (Sk × Co) :=
  match lotF p.lot t.layers with
  | none => .error 21
  | some (j, l) => if l.qty < m.qty then .error 21 else
    .ok ({ t with layers := takeL t.layers j l m.qty, past := t.past.set i (sendP p m) }, ⟨0, W (0 - m.qty), W (0 - takeV l m.qty), W (takeV l m.qty - m.cost)⟩)
def lotQ (t : Sk) (p : Pa) : Int := if qtyLot t.layers p.lot < p.qty then qtyLot t.layers p.lot else p.qty
def lLandR (t : Sk) (m : Mv) (i : Nat) (p : Pa) : Except Int (Sk × Co) :=
  if lotQ t p = 0 then .ok (t, ⟨0, 0, 0, m.cost⟩) else
    .ok ({ t with layers := addLot t.layers p.lot 0 (partN m.cost (lotQ t p) p.qty) }, ⟨0, 0, partN m.cost (lotQ t p) p.qty, W (m.cost - partN m.cost (lotQ t p) p.qty)⟩)
def lRef (k : Int) (t : Sk) (m : Mv) (R : Nat → Pa → Except Int (Sk × Co)) : Except Int (Sk × Co) :=
  match refd k m t.past with
  | .error e => .error e
  | .ok (i, p) => R i p
def lBack (t : Sk) (m : Mv) : Except Int (Sk × Co) := lRef 2 t m (lBackR t m)
def lSend (t : Sk) (m : Mv) : Except Int (Sk × Co) := lRef 1 t m (lSendR t m)
def lLand (t : Sk) (m : Mv) : Except Int (Sk × Co) := lRef 1 t m (lLandR t m)
def lDo (t : Sk) (m : Mv) : Except Int (Sk × Co) :=
  if m.kind = 1 then lRecv t m else if m.kind = 2 then lIssue t m else if m.kind = 3 then lBack t m else if m.kind = 4 then lSend t m else if m.kind = 5 then lLand t m else .error 10
def lStep (s : Sk) (m : Mv) : Except Int (Sk × Co) :=
  if m.one ≠ 0 then .error m.one else if (findI (isPast 0 m.seq) s.past).isSome = true then .error 8 else
  match lDo s m with
  | .error e => .error e
  | .ok (t, c) => if overB (summed t c) c = true then .error 4 else .ok (summed t c, { c with seq := m.seq })
theorem lotF_some {lot : ByteArray} {ls : List Ly} {i : Nat} {l : Ly} (h : lotF lot ls = some (i, l)) : ls[i]? = some l ∧ l.lot = lot ∧ lotI lot ls = i := by
  unfold lotF at h; unfold lotI
  split at h
  · rename_i j x hf
    split at h
    · rename_i hl; cases h; exact ⟨(findI_some hf).1, hl, rfl⟩
    · cases h
  · cases h
theorem lot_found {lot : ByteArray} {ls : List Ly} {i : Nat} {x : Ly} (hx : ls[i]? = some x) (he : x.lot = lot) (hn : ∀ j y, j < i → ls[j]? = some y → lotB lot y = false) : tup [I (i : Int), Bo true] = .tuple ⟨[I (lotI lot ls : Int), Bo (lotF lot ls).isSome]⟩ := by
  have h := findI_at hx (show lotB lot x = true by simp [lotB, he]) hn
  have h1 : lotI lot ls = i := by unfold lotI; rw [h]
  have h2 : lotF lot ls = some (i, x) := by unfold lotF; rw [h]; exact if_pos he
  rw [h1, h2]; rfl
theorem lot_past {lot : ByteArray} {ls : List Ly} {i : Nat} {x : Ly} (hx : ls[i]? = some x) (he : ¬ x.lot = lot) (hg : (!(Op.bytesLess x.lot.toList lot.toList || decide (x.lot = lot))) = true) (hn : ∀ j y, j < i → ls[j]? = some y → lotB lot y = false) : tup [I (i : Int), Bo false] = .tuple ⟨[I (lotI lot ls : Int), Bo (lotF lot ls).isSome]⟩ := by
  have h := findI_at hx (show lotB lot x = true by unfold lotB; rw [hg, Bool.or_true]) hn
  have h1 : lotI lot ls = i := by unfold lotI; rw [h]
  have h2 : lotF lot ls = none := by unfold lotF; rw [h]; exact if_neg he
  rw [h1, h2]; rfl
theorem lot_none {lot : ByteArray} {ls : List Ly} {i : Nat} (hi : i = ls.length) (hn : ∀ j y, j < i → ls[j]? = some y → lotB lot y = false) : tup [I (i : Int), Bo false] = .tuple ⟨[I (lotI lot ls : Int), Bo (lotF lot ls).isSome]⟩ := by
  subst hi
  have h := findI_none (p := lotB lot) hn
  have h1 : lotI lot ls = ls.length := by unfold lotI; rw [h]
  have h2 : lotF lot ls = none := by unfold lotF; rw [h]
  rw [h1, h2]; rfl
theorem lotB_not {lot : ByteArray} {x : Ly} (he : ¬ x.lot = lot) (hg : ¬ (!(Op.bytesLess x.lot.toList lot.toList || decide (x.lot = lot))) = true) : lotB lot x = false := by
  unfold lotB; rw [Bool.eq_false_iff.2 hg, Bool.or_false]; exact decide_eq_false he
theorem lotI_le {lot : ByteArray} {ls : List Ly} : lotI lot ls ≤ ls.length := by
  unfold lotI
  split
  · rename_i i l hf; have := (List.getElem?_eq_some_iff.1 (findI_some hf).1).1; omega
  · exact Nat.le_refl _
theorem insL_len {ls : List Ly} {i : Nat} {x : Ly} (h : i ≤ ls.length) : (insL ls i x).length = ls.length + 1 := by
  simp [insL]; omega
theorem insL_get {ls : List Ly} {i : Nat} {x : Ly} (h : i ≤ ls.length) : (insL ls i x)[i]? = some x := by
  simp [insL, List.getElem?_append, List.length_take, Nat.min_eq_left h]
theorem insL_set {ls : List Ly} {i : Nat} {x y : Ly} (h : i ≤ ls.length) : (insL ls i x).set i y = insL ls i y := by
  simp [insL, List.set_append, List.length_take, Nat.min_eq_left h]
theorem ins_eq {ls : List Ly} {i : Nat} {z y : Ly} (h : i ≤ ls.length) : (((ls ++ [z]).take (i + 1)) ++ ((ls ++ [z]).drop i).take ((ls ++ [z]).length - (i + 1))).set i y = insL ls i y := by
  have h1 : ((ls ++ [z]).drop i).take ((ls ++ [z]).length - (i + 1)) = ls.drop i := by
    rw [List.drop_append_of_le_length h, List.take_append_of_le_length (by simp)]
    exact List.take_of_length_le (by simp)
  have h2 : ((ls ++ [z]).take (i + 1)).length = i + 1 := by simp; omega
  rw [h1, List.set_append_left _ _ (by omega)]
  have h3 : ((ls ++ [z]).take (i + 1)).set i y = ls.take i ++ [y] := by
    rw [List.set_eq_take_append_cons_drop, if_pos (by omega), List.take_take, Nat.min_eq_left (by omega), List.take_append_of_le_length h, List.drop_eq_nil_of_le (by omega)]
  rw [h3]; simp [insL]
theorem ins_lt {ls : List Ly} {i : Nat} {z : Ly} (h : i ≤ ls.length) : i < (((ls ++ [z]).take (i + 1)) ++ ((ls ++ [z]).drop i).take ((ls ++ [z]).length - (i + 1))).length := by
  have h2 : ((ls ++ [z]).take (i + 1)).length = i + 1 := by simp; omega
  rw [List.length_append]; omega
theorem insL_mem {ls : List Ly} {i : Nat} {x y : Ly} (h : y ∈ insL ls i x) : y = x ∨ y ∈ ls := by
  unfold insL at h
  rcases List.mem_append.1 h with h | h
  · exact .inr (List.mem_of_mem_take h)
  · rcases List.mem_cons.1 h with h | h
    · exact .inl h
    · exact .inr (List.mem_of_mem_drop h)
theorem all_of_mem {α : Type} {Q : α → Prop} {xs : List α} (h : ∀ x ∈ xs, Q x) : ∀ (i : Nat) (y : α), xs[i]? = some y → Q y := fun i y hy => h y (List.mem_of_getElem? hy)
theorem mem_of_all {α : Type} {Q : α → Prop} {xs : List α} (h : ∀ (i : Nat) (y : α), xs[i]? = some y → Q y) : ∀ x ∈ xs, Q x := fun x hx => by
  obtain ⟨i, hi, rfl⟩ := List.getElem_of_mem hx
  exact h i _ (List.getElem?_eq_getElem hi)
theorem bump_ok (l : Ly) (q v : Int) : (bump l q v).ok := ⟨W_i64 _, W_i64 _⟩
theorem addLot_ok {ls : List Ly} {lot : ByteArray} {q v : Int} (h : okL ls) : okL (addLot ls lot q v) := by
  unfold addLot
  split
  · exact all_set h (bump_ok _ _ _)
  · refine all_of_mem fun x hx => ?_
    rcases insL_mem hx with rfl | hx
    · exact bump_ok _ _ _
    · exact mem_of_all h x hx
theorem addLot_len {ls : List Ly} {lot : ByteArray} {q v : Int} : (addLot ls lot q v).length ≤ ls.length + 1 := by
  unfold addLot
  split
  · simp
  · rw [insL_len lotI_le]; exact Nat.le_refl _
theorem qtyLot_i64 {ls : List Ly} {lot : ByteArray} (h : okL ls) : i64 (qtyLot ls lot) := by
  unfold qtyLot
  split
  · rename_i hf; exact (h _ _ (lotF_some hf).1).1
  · decide
theorem lotQ_i64 {t : Sk} {p : Pa} (h : okL t.layers) (hp : i64 p.qty) : i64 (lotQ t p) := by
  unfold lotQ
  split
  · exact qtyLot_i64 h
  · exact hp
theorem lDo_ok {N : Nat} {s t : Sk} {m : Mv} {c' : Co} (hs : s.ok N) (hm : m.ok) (h : lDo s m = .ok (t, c')) : t.ok (N + 1) := by
  have hnl := hs.nl; have hnp := hs.np
  unfold lDo at h
  split at h
  · unfold lRecv at h
    split at h
    · cases h
    · cases h
      have := @addLot_len s.layers m.lot m.qty m.cost
      exact ⟨by simp only; omega, by simp; omega, addLot_ok hs.ly, all_append1 hs.pa ⟨hm.1, hm.2, (show i64 0 by decide), (show i64 0 by decide)⟩, hs.q, hs.v, hs.pr⟩
  split at h
  · unfold lIssue at h
    split at h
    · cases h
    · rename_i i l hf
      split at h
      · cases h
      split at h
      · cases h
      cases h
      have := @takeL_len s.layers i l m.qty
      have hl := hs.ly i l (lotF_some hf).1
      exact ⟨by simp only; omega, by simp; omega, takeL_ok hs.ly, all_append1 hs.pa ⟨hm.1, partN_i64 hl.2 hm.1, (show i64 0 by decide), (show i64 0 by decide)⟩, hs.q, hs.v, hs.pr⟩
  split at h
  · unfold lBack lRef at h
    split at h
    · cases h
    · rename_i i p hr
      unfold lBackR at h
      cases h
      have hp := hs.pa i p (refd_spec hr).1
      have := @addLot_len s.layers p.lot m.qty (backV p m)
      exact ⟨by simp only; omega, by simp; omega, addLot_ok hs.ly, all_set hs.pa ⟨hp.1, hp.2.1, W_i64 _, W_i64 _⟩, hs.q, hs.v, hs.pr⟩
  split at h
  · unfold lSend lRef at h
    split at h
    · cases h
    · rename_i i p hr
      unfold lSendR at h
      split at h
      · cases h
      · rename_i j l hf
        split at h
        · cases h
        · cases h
          have hp := hs.pa i p (refd_spec hr).1
          have := @takeL_len s.layers j l m.qty
          exact ⟨by simp only; omega, by simp; omega, takeL_ok hs.ly, all_set hs.pa ⟨hp.1, hp.2.1, W_i64 _, hp.2.2.2⟩, hs.q, hs.v, hs.pr⟩
  split at h
  · unfold lLand lRef at h
    split at h
    · cases h
    · rename_i i p hr
      unfold lLandR at h
      split at h
      · cases h; exact ⟨by omega, by omega, hs.ly, hs.pa, hs.q, hs.v, hs.pr⟩
      · cases h
        have := @addLot_len s.layers p.lot 0 (partN m.cost (lotQ s p) p.qty)
        exact ⟨by simp only; omega, by simp only; omega, addLot_ok hs.ly, hs.pa, hs.q, hs.v, hs.pr⟩
  · cases h
theorem lDo_err {s : Sk} {m : Mv} {e : Int} (h : lDo s m = .error e) : e ≠ 0 := by
  unfold lDo at h
  split at h
  · unfold lRecv at h; split at h
    · cases h; decide
    · cases h
  split at h
  · unfold lIssue at h; split at h
    · cases h; decide
    · split at h
      · cases h; decide
      · split at h
        · cases h; decide
        · cases h
  split at h
  · unfold lBack lRef at h; split at h
    · rename_i he; cases h; exact refd_err he
    · unfold lBackR at h; cases h
  split at h
  · unfold lSend lRef at h; split at h
    · rename_i he; cases h; exact refd_err he
    · unfold lSendR at h; split at h
      · cases h; decide
      · split at h
        · cases h; decide
        · cases h
  split at h
  · unfold lLand lRef at h; split at h
    · rename_i he; cases h; exact refd_err he
    · unfold lLandR at h; split at h <;> cases h
  · cases h; decide
theorem lDo_1 {t : Sk} {m : Mv} (h : m.kind = 1) : lDo t m = lRecv t m := by unfold lDo; rw [if_pos h]
theorem lDo_2 {t : Sk} {m : Mv} (h : m.kind = 2) : lDo t m = lIssue t m := by unfold lDo; rw [if_neg (by omega), if_pos h]
theorem lDo_3 {t : Sk} {m : Mv} (h : m.kind = 3) : lDo t m = lBack t m := by unfold lDo; rw [if_neg (by omega), if_neg (by omega), if_pos h]
theorem lDo_4 {t : Sk} {m : Mv} (h : m.kind = 4) : lDo t m = lSend t m := by unfold lDo; rw [if_neg (by omega), if_neg (by omega), if_neg (by omega), if_pos h]
theorem lDo_5 {t : Sk} {m : Mv} (h : m.kind = 5) : lDo t m = lLand t m := by unfold lDo; rw [if_neg (by omega), if_neg (by omega), if_neg (by omega), if_neg (by omega), if_pos h]
theorem lDo_0 {t : Sk} {m : Mv} (h : ¬ m.kind = 1 ∧ ¬ m.kind = 2 ∧ ¬ m.kind = 3 ∧ ¬ m.kind = 4 ∧ ¬ m.kind = 5) : lDo t m = .error 10 := by unfold lDo; rw [if_neg h.1, if_neg h.2.1, if_neg h.2.2.1, if_neg h.2.2.2.1, if_neg h.2.2.2.2]
def LvB (TX TL TP bx : Nat) (r : Except Int (Sk × Co)) (x : Option Addr × Nat × Option Addr × Nat) : List HP :=
  match r with
  | .error _ => []
  | .ok (t, _) => [pt bx (blk (SC t x.1 t.layers.length x.2.1 x.2.2.1 t.past.length x.2.2.2) TX), own TL 4 x.1 t.layers.length x.2.1 (t.layers.flatMap Ly.c), own TP 7 x.2.2.1 t.past.length x.2.2.2 (t.past.flatMap Pa.c)]
theorem aDo_ok {N : Nat} {s t : Sk} {m : Mv} {c' : Co} (hs : s.ok N) (hm : m.ok) (h : aDo s m = .ok (t, c')) : t.ok (N + 1) := by
  have hnl := hs.nl; have hnp := hs.np
  unfold aDo at h
  split at h
  · unfold aRecv at h
    cases h
    exact ⟨by simp only; omega, by simp; omega, hs.ly, all_append1 hs.pa ⟨hm.1, hm.2, (show i64 0 by decide), (show i64 0 by decide)⟩, hs.q, hs.v, hs.pr⟩
  split at h
  · unfold aIssue at h
    split at h
    · cases h
    · cases h
      exact ⟨by simp only; omega, by simp; omega, hs.ly, all_append1 hs.pa ⟨hm.1, partN_i64 hs.v hm.1, (show i64 0 by decide), (show i64 0 by decide)⟩, hs.q, hs.v, hs.pr⟩
  split at h
  · unfold aBack at h
    split at h
    · cases h
    · rename_i i p hr
      cases h
      have hp := hs.pa i p (refd_spec hr).1
      exact ⟨by simp only; omega, by simp; omega, hs.ly, all_set hs.pa ⟨hp.1, hp.2.1, W_i64 _, W_i64 _⟩, hs.q, hs.v, hs.pr⟩
  split at h
  · unfold aSend at h
    split at h
    · cases h
    · rename_i i p hr
      split at h
      · cases h
      · cases h
        have hp := hs.pa i p (refd_spec hr).1
        exact ⟨by simp only; omega, by simp; omega, hs.ly, all_set hs.pa ⟨hp.1, hp.2.1, W_i64 _, hp.2.2.2⟩, hs.q, hs.v, hs.pr⟩
  split at h
  · unfold aLand at h
    split at h
    · cases h
    · cases h; exact ⟨by omega, by omega, hs.ly, hs.pa, hs.q, hs.v, hs.pr⟩
  · cases h
theorem aDo_err {s : Sk} {m : Mv} {e : Int} (h : aDo s m = .error e) : e ≠ 0 := by
  unfold aDo at h
  split at h
  · cases h
  split at h
  · unfold aIssue at h; split at h
    · cases h; decide
    · cases h
  split at h
  · unfold aBack at h; split at h
    · rename_i he; cases h; exact refd_err he
    · cases h
  split at h
  · unfold aSend at h; split at h
    · rename_i he; cases h; exact refd_err he
    · split at h
      · cases h; decide
      · cases h
  split at h
  · unfold aLand at h; split at h
    · rename_i he; cases h; exact refd_err he
    · cases h
  · cases h; decide
theorem aDo_1 {t : Sk} {m : Mv} (h : m.kind = 1) : aDo t m = aRecv t m := by unfold aDo; rw [if_pos h]
theorem aDo_2 {t : Sk} {m : Mv} (h : m.kind = 2) : aDo t m = aIssue t m := by unfold aDo; rw [if_neg (by omega), if_pos h]
theorem aDo_3 {t : Sk} {m : Mv} (h : m.kind = 3) : aDo t m = aBack t m := by unfold aDo; rw [if_neg (by omega), if_neg (by omega), if_pos h]
theorem aDo_4 {t : Sk} {m : Mv} (h : m.kind = 4) : aDo t m = aSend t m := by unfold aDo; rw [if_neg (by omega), if_neg (by omega), if_neg (by omega), if_pos h]
theorem aDo_5 {t : Sk} {m : Mv} (h : m.kind = 5) : aDo t m = aLand t m := by unfold aDo; rw [if_neg (by omega), if_neg (by omega), if_neg (by omega), if_neg (by omega), if_pos h]
theorem aDo_0 {t : Sk} {m : Mv} (h : ¬ m.kind = 1 ∧ ¬ m.kind = 2 ∧ ¬ m.kind = 3 ∧ ¬ m.kind = 4 ∧ ¬ m.kind = 5) : aDo t m = .error 10 := by unfold aDo; rw [if_neg h.1, if_neg h.2.1, if_neg h.2.2.1, if_neg h.2.2.2.1, if_neg h.2.2.2.2]
theorem aDo_layers {s t : Sk} {m : Mv} {c' : Co} (h : aDo s m = .ok (t, c')) : t.layers = s.layers := by
  unfold aDo at h
  split at h
  · unfold aRecv at h; cases h; rfl
  split at h
  · unfold aIssue at h; split at h
    · cases h
    · cases h; rfl
  split at h
  · unfold aBack at h; split at h
    · cases h
    · cases h; rfl
  split at h
  · unfold aSend at h; split at h
    · cases h
    · split at h
      · cases h
      · cases h; rfl
  split at h
  · unfold aLand at h; split at h
    · cases h
    · cases h; rfl
  · cases h
end Go.SL

namespace Go.SL
open Go
theorem W_in {n : Int} (h : i64 n) : W n = n := wrap_i64_in h
theorem partN_le {v q n : Int} (hv : 0 ≤ v) (hv2 : v ≤ 2000000000000000) (hq : 0 ≤ q) (hqn : q ≤ n) (hn : n ≤ 1000000000) (hn1 : 1 ≤ n) : 0 ≤ partN v q n ∧ partN v q n ≤ v := by
  unfold partN
  split
  · exact ⟨hv, Int.le_refl _⟩
  · rename_i hne
    have hvq : 0 ≤ v * q := Int.mul_nonneg hv hq
    have hneg : negB v q n = false := by
      unfold negB
      have h1 : decide (v < 0) = false := decide_eq_false (by omega)
      have h2 : decide (q < 0) = false := decide_eq_false (by omega)
      have h3 : decide (n < 0) = false := decide_eq_false (by omega)
      rw [h1, h2, h3]; simp
    have m1 : mag v = v := by unfold mag; split <;> omega
    have m2 : mag q = q := by unfold mag; split <;> omega
    have m3 : mag n = n := by unfold mag; split <;> omega
    have hd : 0 ≤ v * q / n := Int.ediv_nonneg hvq (by omega)
    have hsz : mdSize v q n 4 = v * q / n ∨ (mdSize v q n 4 = v * q / n + 1 ∧ v * q % n ≠ 0) := by
      unfold mdSize
      rw [m1, m2, m3]
      split
      · rename_i ha
        unfold awayB at ha
        rw [Bool.and_eq_true] at ha
        exact .inr ⟨rfl, of_decide_eq_true ha.1⟩
      · exact .inl (by omega)
    have hlt : 1 ≤ v → v * q / n < v := fun h => Int.ediv_lt_of_lt_mul (by omega) (Int.mul_lt_mul_of_pos_left (by omega) (by omega))
    have hz : v = 0 → v * q / n = 0 ∧ v * q % n = 0 := by rintro rfl; simp
    have hb : 0 ≤ mdSize v q n 4 ∧ mdSize v q n 4 ≤ v := by
      by_cases h0 : v = 0
      · have := hz h0; rcases hsz with h | ⟨h, h'⟩ <;> omega
      · have := hlt (by omega); rcases hsz with h | ⟨h, h'⟩ <;> omega
    unfold mdN
    rw [if_neg (by omega), hneg]
    unfold signedN
    simp only [Bool.false_eq_true, if_false]
    rw [if_neg (by omega)]
    exact hb
theorem partN_nonneg {v q n : Int} (hv : 0 ≤ v) (hq : 0 ≤ q) (hn : 0 ≤ n) : 0 ≤ partN v q n := by
  unfold partN
  split
  · exact hv
  · have hneg : negB v q n = false := by
      unfold negB
      rw [decide_eq_false (show ¬ v < 0 by omega), decide_eq_false (show ¬ q < 0 by omega), decide_eq_false (show ¬ n < 0 by omega)]; simp
    have h0 : 0 ≤ mdSize v q n 4 := by
      have hm : 0 ≤ mag v * mag q / mag n := Int.ediv_nonneg (Int.mul_nonneg (by unfold mag; split <;> omega) (by unfold mag; split <;> omega)) (by unfold mag; split <;> omega)
      unfold mdSize; split <;> omega
    unfold mdN
    split
    · decide
    · rw [hneg]; unfold signedN; simp only [Bool.false_eq_true, if_false]; split <;> omega
theorem partN_same {v n : Int} : partN v n n = v := by unfold partN; rw [if_pos rfl]

def sumBy {α : Type} (f : α → Int) : List α → Int
  | [] => 0
  | x :: xs => f x + sumBy f xs
theorem sumBy_append {α : Type} (f : α → Int) : ∀ xs ys : List α, sumBy f (xs ++ ys) = sumBy f xs + sumBy f ys
  | [], ys => by simp [sumBy]
  | x :: xs, ys => by simp only [List.cons_append, sumBy, sumBy_append f xs ys]; omega
theorem sumBy_set {α : Type} (f : α → Int) : ∀ (xs : List α) (i : Nat) (x y : α), xs[i]? = some x → sumBy f (xs.set i y) = sumBy f xs - f x + f y
  | [], i, x, y, h => by cases h
  | a :: xs, 0, x, y, h => by cases h; simp only [List.set_cons_zero, sumBy]; omega
  | a :: xs, i + 1, x, y, h => by simp only [List.set_cons_succ, sumBy, sumBy_set f xs i x y (by simpa using h)]; omega
theorem sumBy_erase {α : Type} (f : α → Int) : ∀ (xs : List α) (i : Nat) (x : α), xs[i]? = some x → sumBy f (xs.eraseIdx i) = sumBy f xs - f x
  | [], i, x, h => by cases h
  | a :: xs, 0, x, h => by cases h; simp only [List.eraseIdx_cons_zero, sumBy]; omega
  | a :: xs, i + 1, x, h => by simp only [List.eraseIdx_cons_succ, sumBy, sumBy_erase f xs i x (by simpa using h)]; omega
theorem sumBy_ins (f : Ly → Int) (ls : List Ly) (i : Nat) (x : Ly) : sumBy f (insL ls i x) = sumBy f ls + f x := by
  have h := sumBy_append f (ls.take i) (ls.drop i)
  rw [List.take_append_drop] at h
  simp only [insL, sumBy_append, sumBy]; omega
theorem sumBy_nonneg {α : Type} {f : α → Int} : ∀ {xs : List α}, (∀ x ∈ xs, 0 ≤ f x) → 0 ≤ sumBy f xs
  | [], _ => Int.le_refl _
  | x :: xs, h => by
    have h1 := h x (by simp); have h2 := sumBy_nonneg (f := f) (xs := xs) fun y hy => h y (by simp [hy])
    simp only [sumBy]; omega
theorem sumBy_le {α : Type} {f : α → Int} {xs : List α} {i : Nat} {x : α} (h : ∀ x ∈ xs, 0 ≤ f x) (hx : xs[i]? = some x) : f x ≤ sumBy f xs := by
  have h1 := sumBy_erase f xs i x hx
  have h2 := sumBy_nonneg (f := f) (xs := xs.eraseIdx i) fun y hy => h y (List.mem_of_mem_eraseIdx hy)
  omega
def LG (l : Ly) : Prop := 1 ≤ l.qty ∧ 0 ≤ l.value
def LGs (ls : List Ly) : Prop := ∀ l ∈ ls, LG l
theorem LGs.q {ls : List Ly} (h : LGs ls) : ∀ l ∈ ls, 0 ≤ l.qty := fun l hl => by have := (h l hl).1; omega
theorem LGs.v {ls : List Ly} (h : LGs ls) : ∀ l ∈ ls, 0 ≤ l.value := fun l hl => (h l hl).2
theorem mem_set {α : Type} {xs : List α} {i : Nat} {x y : α} (h : y ∈ xs.set i x) : y = x ∨ y ∈ xs := by
  rcases List.mem_or_eq_of_mem_set h with h | h
  · exact .inr h
  · exact .inl h
theorem takeV_le {l : Ly} {q : Int} (hl : LG l) (h1 : 0 ≤ q) (h2 : q ≤ l.qty) (hq : l.qty ≤ 1000000000) (hv : l.value ≤ 1000000000000000) : 0 ≤ takeV l q ∧ takeV l q ≤ l.value :=
  partN_le hl.2 (by omega) h1 h2 hq hl.1
theorem takeL_good {ls : List Ly} {i : Nat} {l : Ly} {q : Int} (h : LGs ls) (hx : ls[i]? = some l) (h1 : 1 ≤ q) (h2 : q ≤ l.qty) (hq : sumBy Ly.qty ls ≤ 1000000000) (hv : sumBy Ly.value ls ≤ 1000000000000000) :
    LGs (takeL ls i l q) ∧ sumBy Ly.qty (takeL ls i l q) = sumBy Ly.qty ls - q ∧ sumBy Ly.value (takeL ls i l q) = sumBy Ly.value ls - takeV l q ∧ 0 ≤ takeV l q ∧ takeV l q ≤ sumBy Ly.value ls := by
  have hl := h l (List.mem_of_getElem? hx)
  have hlq := sumBy_le h.q hx
  have hlv := sumBy_le h.v hx
  have hl1 := hl.1; have hl2 := hl.2
  have ht := takeV_le hl (by omega) h2 (by omega) (by omega)
  have hw : W (l.qty - q) = l.qty - q := W_in ⟨by omega, by omega⟩
  have hw2 : W (l.value - takeV l q) = l.value - takeV l q := W_in ⟨by omega, by omega⟩
  unfold takeL
  rw [hw]
  split
  · rename_i hz
    have hqq : q = l.qty := by omega
    have htv : takeV l q = l.value := by unfold takeV; rw [hqq]; exact partN_same
    refine ⟨fun x hx => h x (List.mem_of_mem_eraseIdx hx), ?_, ?_, ht.1, by omega⟩
    · show sumBy Ly.qty _ = _; rw [sumBy_erase _ _ _ _ hx]; omega
    · show sumBy Ly.value _ = _; rw [sumBy_erase _ _ _ _ hx, htv]
  · rename_i hz
    have e : takeX l q = { l with qty := l.qty - q, value := l.value - takeV l q } := by unfold takeX; rw [hw, hw2]
    rw [e]
    refine ⟨fun x hx => ?_, ?_, ?_, ht.1, by omega⟩
    · rcases mem_set hx with rfl | hx
      · exact ⟨by simp only; omega, by simp only; omega⟩
      · exact h x hx
    · show sumBy Ly.qty _ = _; rw [sumBy_set _ _ _ _ _ hx]; simp only; omega
    · show sumBy Ly.value _ = _; rw [sumBy_set _ _ _ _ _ hx]; simp only; omega
theorem issueL_good : ∀ (ls : List Ly) (left v : Int), LGs ls → 0 ≤ left → left ≤ sumBy Ly.qty ls → sumBy Ly.qty ls ≤ 1000000000 → 0 ≤ v → v + sumBy Ly.value ls ≤ 1000000000000000 →
    LGs (issueL ls left v).1 ∧ sumBy Ly.qty (issueL ls left v).1 = sumBy Ly.qty ls - left ∧ (issueL ls left v).2 + sumBy Ly.value (issueL ls left v).1 = v + sumBy Ly.value ls ∧ 0 ≤ (issueL ls left v).2
  | [], left, v, h, h0, h1, hq, hv, hs => by
    simp only [sumBy] at h1
    have : left = 0 := by omega
    subst this
    exact ⟨h, by simp [issueL, sumBy], rfl, hv⟩
  | l :: ls, left, v, h, h0, h1, hq, hv, hs => by
    have hl := h l (by simp)
    have hr : LGs ls := fun x hx => h x (by simp [hx])
    have hrq := sumBy_nonneg hr.q; have hrv := sumBy_nonneg hr.v
    have hl1 := hl.1; have hl2 := hl.2
    simp only [sumBy] at h1 hq hs ⊢
    unfold issueL
    split
    · exact ⟨h, by simp only [sumBy]; omega, by simp only [sumBy], hv⟩
    · rename_i hp
      simp only
      by_cases hlt : l.qty < left
      · rw [if_pos hlt, Int.sub_self, if_pos (show W 0 = 0 by decide)]
        have ht : takeV l l.qty = l.value := by unfold takeV; exact partN_same
        rw [ht, W_in (show i64 (left - l.qty) from ⟨by omega, by omega⟩), W_in (show i64 (v + l.value) from ⟨by omega, by omega⟩)]
        have ih := issueL_good ls (left - l.qty) (v + l.value) hr (by omega) (by omega) (by omega) (by omega) (by omega)
        exact ⟨ih.1, by rw [ih.2.1]; omega, by rw [ih.2.2.1]; omega, ih.2.2.2⟩
      · rw [if_neg hlt, W_in (show i64 (l.qty - left) from ⟨by omega, by omega⟩)]
        have htl := takeV_le (q := left) hl (by omega) (by omega) (by omega) (by omega)
        split
        · rename_i hz
          have hll : left = l.qty := by omega
          have ht : takeV l left = l.value := by unfold takeV; rw [hll]; exact partN_same
          rw [ht, Int.sub_self, W_in (show i64 0 by decide), W_in (show i64 (v + l.value) from ⟨by omega, by omega⟩)]
          have ih := issueL_good ls 0 (v + l.value) hr (by omega) (by omega) (by omega) (by omega) (by omega)
          exact ⟨ih.1, by rw [ih.2.1]; omega, by rw [ih.2.2.1]; omega, ih.2.2.2⟩
        · rename_i hz
          rw [W_in (show i64 (v + takeV l left) from ⟨by omega, by omega⟩)]
          have e : takeX l left = { l with qty := l.qty - left, value := l.value - takeV l left } := by
            unfold takeX; rw [W_in (show i64 (l.qty - left) from ⟨by omega, by omega⟩), W_in (show i64 (l.value - takeV l left) from ⟨by omega, by omega⟩)]
          rw [e]
          refine ⟨fun x hx => ?_, by simp only [sumBy]; omega, by simp only [sumBy]; omega, by simp only; omega⟩
          rcases List.mem_cons.1 hx with rfl | hx
          · exact ⟨by simp only; omega, by simp only; omega⟩
          · exact hr x hx

structure PG (p : Pa) : Prop where
  kd : p.kind = 1 ∨ p.kind = 2
  q1 : 1 ≤ p.qty
  q2 : p.qty ≤ 1000000000
  u0 : 0 ≤ p.used
  u1 : p.used ≤ p.qty
  v0 : 0 ≤ p.value
  v1 : p.value ≤ 2000000000000000
  w0 : 0 ≤ p.usedValue
  w1 : p.usedValue ≤ p.value
  full : p.used = p.qty → p.kind = 2 → p.usedValue = p.value
def seqNew (seq : Int) (ps : List Pa) : Prop := ∀ p ∈ ps, p.seq ≠ seq
structure PGs (ps : List Pa) : Prop where
  all : ∀ p ∈ ps, PG p
  uniq : (ps.map Pa.seq).Nodup
theorem isPast_iff {kind seq : Int} {p : Pa} : isPast kind seq p = true ↔ p.seq = seq ∧ (kind = 0 ∨ p.kind = kind) := by
  unfold isPast; simp
theorem back_good {p : Pa} {m : Mv} (h : PG p) (h1 : 1 ≤ m.qty) (h2 : m.qty ≤ W (p.qty - p.used)) :
    PG (backP p m) ∧ (backP p m).used = p.used + m.qty ∧ (backP p m).usedValue = p.usedValue + backV p m ∧ 0 ≤ backV p m ∧ backV p m ≤ p.value - p.usedValue := by
  obtain ⟨kd, q1, q2, u0, u1, v0, v1, w0, w1, full⟩ := h
  have e1 : W (p.qty - p.used) = p.qty - p.used := W_in ⟨by omega, by omega⟩
  have e2 : W (p.value - p.usedValue) = p.value - p.usedValue := W_in ⟨by omega, by omega⟩
  rw [e1] at h2
  have hb : 0 ≤ backV p m ∧ backV p m ≤ p.value - p.usedValue := by
    unfold backV; rw [e1, e2]; exact partN_le (by omega) (by omega) (by omega) h2 (by omega) (by omega)
  have hf : m.qty = p.qty - p.used → backV p m = p.value - p.usedValue := fun e => by unfold backV; rw [e1, e2, e]; exact partN_same
  have e : backP p m = { p with used := p.used + m.qty, usedValue := p.usedValue + backV p m } := by
    unfold backP; rw [W_in (show i64 (p.used + m.qty) from ⟨by omega, by omega⟩), W_in (show i64 (p.usedValue + backV p m) from ⟨by omega, by omega⟩)]
  rw [e]
  refine ⟨⟨kd, q1, q2, ?_, ?_, v0, v1, ?_, ?_, ?_⟩, rfl, rfl, hb⟩ <;> simp only
  · omega
  · omega
  · omega
  · omega
  · intro hu hk; have := hf (by omega); omega
theorem send_good {p : Pa} {m : Mv} (h : PG p) (hk : p.kind = 1) (h1 : 1 ≤ m.qty) (h2 : m.qty ≤ W (p.qty - p.used)) : PG (sendP p m) := by
  obtain ⟨kd, q1, q2, u0, u1, v0, v1, w0, w1, full⟩ := h
  have e1 : W (p.qty - p.used) = p.qty - p.used := W_in ⟨by omega, by omega⟩
  rw [e1] at h2
  have e : sendP p m = { p with used := p.used + m.qty } := by unfold sendP; rw [W_in (show i64 (p.used + m.qty) from ⟨by omega, by omega⟩)]
  rw [e]
  refine ⟨kd, q1, q2, ?_, ?_, v0, v1, w0, w1, ?_⟩ <;> simp only
  · omega
  · omega
  · intro hu hk'; omega
theorem PGs.set {ps : List Pa} {i : Nat} {p p' : Pa} (h : PGs ps) (hx : ps[i]? = some p) (hp : PG p') (hs : p'.seq = p.seq) : PGs (ps.set i p') := by
  refine ⟨fun x hx' => ?_, ?_⟩
  · rcases mem_set hx' with rfl | hx'
    · exact hp
    · exact h.all x hx'
  · rw [List.map_set, hs]
    have : (ps.map Pa.seq).set i p.seq = ps.map Pa.seq := by
      apply List.ext_getElem?
      intro j
      rw [List.getElem?_set]
      split
      · rename_i e; subst e; split
        · rw [List.getElem?_map, hx]; rfl
        · rename_i hlt; rw [List.getElem?_eq_none (by omega)]
      · rfl
    rw [this]; exact h.uniq
theorem PGs.add {ps : List Pa} {p : Pa} (h : PGs ps) (hp : PG p) (hn : seqNew p.seq ps) : PGs (ps ++ [p]) := by
  refine ⟨fun x hx => ?_, ?_⟩
  · rcases List.mem_append.1 hx with hx | hx
    · exact h.all x hx
    · rw [List.mem_singleton.1 hx]; exact hp
  · rw [List.map_append, List.map_singleton, List.nodup_append]
    refine ⟨h.uniq, by simp, ?_⟩
    intro a ha b hb
    rw [List.mem_singleton.1 hb]
    obtain ⟨x, hx, rfl⟩ := List.mem_map.1 ha
    exact hn x hx
theorem seqNew_of_none {seq : Int} {ps : List Pa} (h : ¬ (findI (isPast 0 seq) ps).isSome = true) : seqNew seq ps := fun p hp e => by
  apply h
  obtain ⟨i, hi, rfl⟩ := List.getElem_of_mem hp
  unfold findI
  cases hf : ps.findIdx? (isPast 0 seq) with
  | none => rw [List.findIdx?_eq_none_iff] at hf; have := hf _ hp; rw [Bool.eq_false_iff] at this; exact absurd (isPast_iff.2 ⟨e, .inl rfl⟩) this
  | some j =>
    obtain ⟨hj, _, _⟩ := List.findIdx?_eq_some_iff_getElem.1 hf
    simp [List.getElem?_eq_getElem hj]
theorem findI_isSome {α : Type} {f : α → Bool} {xs : List α} {x : α} (hx : x ∈ xs) (hf : f x = true) : (findI f xs).isSome = true := by
  unfold findI
  cases h : xs.findIdx? f with
  | none => rw [List.findIdx?_eq_none_iff] at h; have := h _ hx; rw [hf] at this; cases this
  | some j =>
    obtain ⟨hj, _, _⟩ := List.findIdx?_eq_some_iff_getElem.1 h
    simp [List.getElem?_eq_getElem hj]
theorem seqNew_of_two {seq : Int} {ps : List Pa} (hk : ∀ p ∈ ps, PG p) (h : ¬ ((findI (isPast 1 seq) ps).isSome || (findI (isPast 2 seq) ps).isSome) = true) : seqNew seq ps := fun p hp e => by
  apply h
  rw [Bool.or_eq_true]
  rcases (hk p hp).kd with hk | hk
  · exact .inl (findI_isSome hp (isPast_iff.2 ⟨e, .inr hk⟩))
  · exact .inr (findI_isSome hp (isPast_iff.2 ⟨e, .inr hk⟩))

structure MG (m : Mv) : Prop where
  k : 1 ≤ m.kind ∧ m.kind ≤ 6
  q : (m.kind = 5 ∨ m.kind = 6 → m.qty = 0) ∧ (m.kind = 1 ∨ m.kind = 2 ∨ m.kind = 3 ∨ m.kind = 4 → 1 ≤ m.qty ∧ m.qty ≤ 1000000000)
  c : 0 ≤ m.cost ∧ m.cost ≤ 1000000000000
  c0 : m.kind = 2 ∨ m.kind = 3 → m.cost = 0
theorem inB_true {n lo hi : Int} : inB n lo hi = true ↔ lo ≤ n ∧ n ≤ hi := by unfold inB; simp
theorem MG.of {m : Mv} (h : m.one = 0) : MG m := by
  have hk := @inB_true m.kind 1 6
  unfold Mv.one at h
  split at h
  · cases h
  split at h
  · cases h
  split at h
  · cases h
  rename_i h3
  split at h
  · cases h
  rename_i h4
  have h3' : inB m.kind 1 6 = true := by simpa using h3
  have hk' := hk.1 h3'
  have h4' : m.quantityOk = true ∧ m.costOk = true := by simpa using h4
  obtain ⟨hq, hc⟩ := h4'
  unfold Mv.quantityOk at hq
  unfold Mv.costOk at hc
  refine ⟨hk', ⟨fun e => ?_, fun e => ?_⟩, ?_, fun e => ?_⟩
  · rw [if_pos e] at hq; exact of_decide_eq_true hq
  · rw [if_neg (by omega)] at hq; exact inB_true.1 hq
  · split at hc
    · have := of_decide_eq_true hc; omega
    · split at hc
      · have := inB_true.1 hc; omega
      · exact inB_true.1 hc
  · rw [if_pos e] at hc; exact of_decide_eq_true hc
theorem near_in {n lo hi : Int} (h : near n lo hi = n) (hlh : lo ≤ hi) : lo ≤ n ∧ n ≤ hi := by
  unfold near at h; split at h
  · omega
  · split at h <;> omega
theorem farB_no {n : Int} (h : ¬ farB n = true) : -1000000000000000 ≤ n ∧ n ≤ 1000000000000000 := by
  unfold farB at h
  have : near n (-1000000000000000) 1000000000000000 = n := by simpa using h
  exact near_in this (by decide)
theorem largeB_no {n : Int} (h : ¬ largeB n = true) : -1000000000000000 ≤ n ∧ n ≤ 1000000000000000 := by
  unfold largeB at h
  have := of_decide_eq_false (Bool.eq_false_iff.2 h); omega
theorem withinB_yes {n : Int} (h : withinB n = true) : -1000000000000000 ≤ n ∧ n ≤ 1000000000000000 := by
  unfold withinB at h
  exact of_decide_eq_true h
end Go.SL

namespace Go.SL
open Go
structure SG (s : Sk) : Prop where
  q0 : 0 ≤ s.qty
  q1 : s.qty ≤ 1000000000
  v0 : -1000000000000000 ≤ s.value
  v1 : s.value ≤ 1000000000000000
  ps : PGs s.past
structure PF (s t : Sk) (m : Mv) (c : Co) : Prop where
  cq : c.qty = if m.kind = 1 ∨ m.kind = 3 then m.qty else if m.kind = 2 ∨ m.kind = 4 then -m.qty else 0
  e15 : m.kind = 1 ∨ m.kind = 5 → c.value + c.var = m.cost
  e4 : m.kind = 4 → c.value + c.var = -m.cost
  e6 : m.kind = 6 → c.value + c.var = 0
  e2 : m.kind = 2 → c.var = 0 ∧ c.value ≤ 0 ∧ -2000000000000000 ≤ c.value
  p1 : m.kind = 1 → t.past = s.past ++ [⟨m.seq, m.kind, m.lot, m.qty, m.cost, 0, 0⟩]
  p2 : m.kind = 2 → t.past = s.past ++ [⟨m.seq, m.kind, m.lot, m.qty, -c.value, 0, 0⟩]
  p3 : m.kind = 3 → ∃ i p, s.past[i]? = some p ∧ p.kind = 2 ∧ p.seq = m.ref ∧ t.past = s.past.set i (backP p m) ∧ c.value + c.var = backV p m ∧ m.qty ≤ W (p.qty - p.used)
  p4 : m.kind = 4 → ∃ i p, s.past[i]? = some p ∧ p.kind = 1 ∧ p.seq = m.ref ∧ t.past = s.past.set i (sendP p m) ∧ m.qty ≤ W (p.qty - p.used)
  p5 : m.kind = 5 ∨ m.kind = 6 → t.past = s.past
structure SF (s t : Sk) (m : Mv) (c : Co) : Prop where
  mg : MG m
  new : seqNew m.seq s.past
  seq : c.seq = m.seq
  tq : t.qty = s.qty + c.qty
  tv : t.value = s.value + c.value
  r0 : -1000000000000000 ≤ c.var
  r1 : c.var ≤ 1000000000000000
  pf : PF s t m c
theorem refd_one {k : Int} {m : Mv} {ps : List Pa} {i : Nat} {p : Pa} (hk : k ≠ 0) (h : refd k m ps = .ok (i, p)) : ps[i]? = some p ∧ p.kind = k ∧ p.seq = m.ref ∧ m.qty ≤ W (p.qty - p.used) := by
  obtain ⟨h1, h2, h3⟩ := refd_spec h
  have := isPast_iff.1 h2
  exact ⟨h1, by rcases this.2 with h | h; exact absurd h hk; exact h, this.1, h3⟩
theorem PF.past {s t : Sk} {m : Mv} {c : Co} (h : PF s t m c) (hm : MG m) (hn : seqNew m.seq s.past) (hs : PGs s.past) : PGs t.past := by
  have hk := hm.k; have hc := hm.c
  rcases (show m.kind = 1 ∨ m.kind = 2 ∨ m.kind = 3 ∨ m.kind = 4 ∨ (m.kind = 5 ∨ m.kind = 6) by omega) with hk | hk | hk | hk | hk
  · rw [h.p1 hk]
    have := hm.q.2 (.inl hk)
    exact hs.add ⟨.inl hk, this.1, this.2, Int.le_refl _, by simp only; omega, by simp only; omega, by simp only; omega, Int.le_refl _, by simp only; omega, fun _ h2 => by simp only at h2; omega⟩ hn
  · rw [h.p2 hk]
    have := hm.q.2 (.inr (.inl hk))
    have h2 := h.e2 hk
    exact hs.add ⟨.inr hk, this.1, this.2, Int.le_refl _, by simp only; omega, by simp only; omega, by simp only; omega, Int.le_refl _, by simp only; omega, fun h2 _ => by simp only at h2; omega⟩ hn
  · obtain ⟨i, p, hx, hpk, hps, ht, _, hw⟩ := h.p3 hk
    have hq := hm.q.2 (.inr (.inr (.inl hk)))
    have hp := hs.all p (List.mem_of_getElem? hx)
    rw [ht]
    exact hs.set hx (back_good hp hq.1 hw).1 rfl
  · obtain ⟨i, p, hx, hpk, hps, ht, hw⟩ := h.p4 hk
    have hq := hm.q.2 (.inr (.inr (.inr hk)))
    have hp := hs.all p (List.mem_of_getElem? hx)
    rw [ht]
    exact hs.set hx (send_good hp hpk hq.1 hw) rfl
  · rw [h.p5 hk]; exact hs
structure LI (ls : List Ly) (q v : Int) : Prop where
  g : LGs ls
  q : sumBy Ly.qty ls = q
  v : sumBy Ly.value ls = v
theorem overB_no {t : Sk} {c : Co} (h : ¬ overB t c = true) : (∀ l ∈ t.layers, -1000000000000000 ≤ l.value ∧ l.value ≤ 1000000000000000) ∧ t.qty ≤ 1000000000 ∧ (-1000000000000000 ≤ t.value ∧ t.value ≤ 1000000000000000) ∧ (-1000000000000000 ≤ c.var ∧ c.var ≤ 1000000000000000) := by
  unfold overB at h
  simp only [Bool.or_eq_true, not_or, List.any_eq_true, not_exists, not_and] at h
  obtain ⟨h1, ⟨h2, h3⟩, h4⟩ := h
  exact ⟨fun l hl => farB_no (h1 l hl), by have := of_decide_eq_false (Bool.eq_false_iff.2 h2); omega, farB_no h3, farB_no h4⟩

theorem wq {a b : Int} (h1 : -10000000000000000 ≤ a ∧ a ≤ 10000000000000000) (h2 : -10000000000000000 ≤ b ∧ b ≤ 10000000000000000) : W (a + b) = a + b := W_in ⟨by omega, by omega⟩
theorem wn {a b : Int} (h1 : -10000000000000000 ≤ a ∧ a ≤ 10000000000000000) (h2 : -10000000000000000 ≤ b ∧ b ≤ 10000000000000000) : W (a - b) = a - b := W_in ⟨by omega, by omega⟩
theorem fDo_f {s t : Sk} {m : Mv} {c : Co} (hs : SG s) (hl : LI s.layers s.qty s.value) (hm : MG m) (h : fDo s m ⟨m.seq, 0, 0, 0⟩ = .ok (t, c)) (ho : ¬ overB (summed t c) c = true) :
    PF s t m c ∧ t.qty = s.qty ∧ t.value = s.value ∧ c.seq = m.seq ∧ LI t.layers (s.qty + c.qty) (s.value + c.value) ∧ -2000000000000000 ≤ c.value ∧ c.value ≤ 2000000000000000 := by
  obtain ⟨q0, q1, v0, v1, ps⟩ := hs
  obtain ⟨lg, lq, lv⟩ := hl
  have mk := hm.k; have mq := hm.q; have mc := hm.c
  obtain ⟨ho1, ho2, ho3, ho4⟩ := overB_no ho
  unfold fDo at h
  split at h
  · rename_i hk
    have hq := mq.2 (.inl hk)
    unfold fRecv at h; cases h
    refine ⟨⟨?_, ?_, ?_, ?_, ?_, fun _ => rfl, ?_, ?_, ?_, ?_⟩, rfl, rfl, rfl, ⟨?_, ?_, ?_⟩, ?_, ?_⟩ <;> (try simp only) <;> (try omega)
    · intro x hx
      rcases List.mem_append.1 hx with hx | hx
      · exact lg x hx
      · rw [List.mem_singleton.1 hx]; exact ⟨hq.1, mc.1⟩
    · rw [sumBy_append]; simp only [sumBy]; omega
    · rw [sumBy_append]; simp only [sumBy]; omega
  split at h
  · rename_i hk1 hk
    have hq := mq.2 (.inr (.inl hk))
    unfold fIssue at h
    split at h
    · cases h
    · rename_i hlt
      cases h
      have hi := issueL_good s.layers m.qty 0 lg (by omega) (by omega) (by omega) (by decide) (by omega)
      have hnn := sumBy_nonneg hi.1.v
      have hw : W (0 - m.qty) = -m.qty := by rw [wn ⟨by decide, by decide⟩ ⟨by omega, by omega⟩]; omega
      have hw2 : W (0 - (issueL s.layers m.qty 0).2) = -(issueL s.layers m.qty 0).2 := by rw [wn ⟨by decide, by decide⟩ ⟨by omega, by omega⟩]; omega
      rw [hw, hw2]
      refine ⟨⟨?_, ?_, ?_, ?_, ?_, ?_, fun _ => ?_, ?_, ?_, ?_⟩, rfl, rfl, rfl, ⟨hi.1, ?_, ?_⟩, ?_, ?_⟩ <;> (try simp only) <;> (try omega)
      · exact fun _ => ⟨trivial, by omega, by omega⟩
      · rw [Int.neg_neg]
  split at h
  · rename_i hk1 hk2 hk
    have hq := mq.2 (.inr (.inr (.inl hk)))
    unfold fBack at h
    split at h
    · cases h
    · rename_i i p hr
      cases h
      have hr' := refd_one (by decide) hr
      have hp := ps.all p (List.mem_of_getElem? hr'.1)
      have hb := back_good hp hq.1 hr'.2.2.2
      have hpv := hp.v1; have hpw := hp.w0
      refine ⟨⟨?_, ?_, ?_, ?_, ?_, ?_, ?_, fun _ => ⟨i, p, hr'.1, hr'.2.1, hr'.2.2.1, rfl, ?_, hr'.2.2.2⟩, ?_, ?_⟩, rfl, rfl, rfl, ⟨?_, ?_, ?_⟩, ?_, ?_⟩ <;> (try simp only) <;> (try omega)
      · intro x hx
        rcases List.mem_append.1 hx with hx | hx
        · exact lg x hx
        · rw [List.mem_singleton.1 hx]; exact ⟨hq.1, hb.2.2.2.1⟩
      · rw [sumBy_append]; simp only [sumBy]; omega
      · rw [sumBy_append]; simp only [sumBy]; omega
  split at h
  · rename_i hk1 hk2 hk3 hk
    have hq := mq.2 (.inr (.inr (.inr hk)))
    unfold fSend at h
    split at h
    · cases h
    · rename_i i p hr
      split at h
      · cases h
      · rename_i j l hf
        split at h
        · cases h
        · rename_i hlt
          cases h
          have hr' := refd_one (by decide) hr
          have hp := ps.all p (List.mem_of_getElem? hr'.1)
          have ht := takeL_good lg (findI_some hf).1 hq.1 (by omega) (by omega) (by omega)
          have hw : W (0 - m.qty) = -m.qty := by rw [wn ⟨by decide, by decide⟩ ⟨by omega, by omega⟩]; omega
          have hw2 : W (0 - takeV l m.qty) = -takeV l m.qty := by rw [wn ⟨by decide, by decide⟩ ⟨by omega, by omega⟩]; omega
          have hw3 : W (takeV l m.qty - m.cost) = takeV l m.qty - m.cost := wn ⟨by omega, by omega⟩ ⟨by omega, by omega⟩
          rw [hw, hw2, hw3]
          refine ⟨⟨?_, ?_, ?_, ?_, ?_, ?_, ?_, ?_, fun _ => ⟨i, p, hr'.1, hr'.2.1, hr'.2.2.1, rfl, hr'.2.2.2⟩, ?_⟩, rfl, rfl, rfl, ⟨ht.1, ?_, ?_⟩, ?_, ?_⟩ <;> (try simp only) <;> (try omega)
  split at h
  · rename_i hk1 hk2 hk3 hk4 hk
    have hq := mq.1 (.inl hk)
    unfold fLand at h
    split at h
    · cases h
    · rename_i i p hr
      have hr' := refd_one (by decide) hr
      have hp := ps.all p (List.mem_of_getElem? hr'.1)
      split at h
      · cases h
        have hw : W (m.cost - 0) = m.cost := by rw [Int.sub_zero]; exact W_in ⟨by omega, by omega⟩
        rw [hw]
        refine ⟨⟨?_, ?_, ?_, ?_, ?_, ?_, ?_, ?_, ?_, fun _ => rfl⟩, rfl, rfl, rfl, ⟨lg, ?_, ?_⟩, ?_, ?_⟩ <;> (try simp only) <;> (try omega)
      · rename_i j l hf
        cases h
        have hx := (findI_some hf).1
        have hlm := List.mem_of_getElem? hx
        have hlg := lg l hlm
        have h0 := partN_nonneg (v := m.cost) (q := l.qty) (n := p.qty) mc.1 (by have := hlg.1; omega) (by have := hp.q1; omega)
        have hi : i64 (partN m.cost l.qty p.qty) := partN_i64 ⟨by omega, by omega⟩ (by have := sumBy_le lg.q hx; have := hlg.1; constructor <;> omega)
        have hw : W (m.cost - partN m.cost l.qty p.qty) = m.cost - partN m.cost l.qty p.qty := W_in ⟨by omega, by omega⟩
        rw [hw] at ho4 ⊢; simp only at ho4
        have hlv := sumBy_le lg.v hx; have hl2 := hlg.2
        have hw2 : W (l.value + partN m.cost l.qty p.qty) = l.value + partN m.cost l.qty p.qty := wq ⟨by omega, by omega⟩ ⟨by omega, by omega⟩
        rw [hw2]
        refine ⟨⟨?_, ?_, ?_, ?_, ?_, ?_, ?_, ?_, ?_, fun _ => rfl⟩, rfl, rfl, rfl, ⟨?_, ?_, ?_⟩, ?_, ?_⟩ <;> (try simp only) <;> (try omega)
        · intro x hx'
          rcases mem_set hx' with rfl | hx'
          · exact ⟨hlg.1, by simp only; omega⟩
          · exact lg x hx'
        · rw [sumBy_set _ _ _ _ _ hx]; simp only; omega
        · rw [sumBy_set _ _ _ _ _ hx]; simp only; omega
  · cases h
theorem LI.nonneg {ls : List Ly} {q v : Int} (h : LI ls q v) : 0 ≤ q ∧ 0 ≤ v := ⟨h.q ▸ sumBy_nonneg h.g.q, h.v ▸ sumBy_nonneg h.g.v⟩
theorem PF.cqb {s t : Sk} {m : Mv} {c : Co} (h : PF s t m c) (hm : MG m) : -1000000000 ≤ c.qty ∧ c.qty ≤ 1000000000 := by
  have mk := hm.k; have mq := hm.q
  rw [h.cq]
  split
  · have := mq.2 (by omega); omega
  · split
    · have := mq.2 (by omega); omega
    · omega
theorem PF.reseq {s t : Sk} {m : Mv} {c : Co} (h : PF s t m c) (q v n : Int) : PF s { t with qty := q, value := v } m { c with seq := n } := ⟨h.cq, h.e15, h.e4, h.e6, h.e2, h.p1, h.p2, h.p3, h.p4, h.p5⟩
theorem summed_f {s t : Sk} {m : Mv} {c : Co} (hs : SG s) (hm : MG m) (hn : seqNew m.seq s.past) (pf : PF s t m c) (tq : t.qty = s.qty) (tv : t.value = s.value) (c0 : -2000000000000000 ≤ c.value) (c1 : c.value ≤ 2000000000000000)
    (hq : 0 ≤ s.qty + c.qty) (ho : (summed t c).qty ≤ 1000000000 ∧ (-1000000000000000 ≤ (summed t c).value ∧ (summed t c).value ≤ 1000000000000000) ∧ (-1000000000000000 ≤ c.var ∧ c.var ≤ 1000000000000000)) (n : Int) (e : n = m.seq) :
    SF s (summed t c) m { c with seq := n } ∧ SG (summed t c) := by
  obtain ⟨q0, q1, v0, v1, ps⟩ := hs
  have hcq := pf.cqb hm
  have e1 : W (t.qty + c.qty) = s.qty + c.qty := by rw [tq]; exact wq ⟨by omega, by omega⟩ ⟨by omega, by omega⟩
  have e2 : W (t.value + c.value) = s.value + c.value := by rw [tv]; exact wq ⟨by omega, by omega⟩ ⟨by omega, by omega⟩
  have e3 : summed t c = { t with qty := s.qty + c.qty, value := s.value + c.value } := by unfold summed; rw [e1, e2]
  rw [e3] at ho ⊢
  simp only at ho
  refine ⟨⟨hm, hn, e, rfl, rfl, ho.2.2.1, ho.2.2.2, pf.reseq _ _ _⟩, ⟨hq, ho.1, ho.2.1.1, ho.2.1.2, ?_⟩⟩
  exact (pf.past hm hn ps)
theorem fStep_f {s t : Sk} {m : Mv} {c : Co} (hs : SG s) (hl : LI s.layers s.qty s.value) (h : fStep s m = .ok (t, c)) : SF s t m c ∧ SG t ∧ LI t.layers t.qty t.value := by
  unfold fStep at h
  split at h
  · cases h
  rename_i h1
  have hm := MG.of (Decidable.not_not.1 h1)
  split at h
  · cases h
  rename_i h2
  have hn := seqNew_of_none h2
  split at h
  · cases h
  rename_i t' c' hd
  split at h
  · cases h
  rename_i ho
  cases h
  have hf := fDo_f hs hl hm hd ho
  obtain ⟨pf, tq, tv, cs, li, c0, c1⟩ := hf
  have ho' := (overB_no ho).2
  have hsum := summed_f hs hm hn pf tq tv c0 c1 li.nonneg.1 ho' c.seq cs
  refine ⟨hsum.1, hsum.2, ?_⟩
  have e1 := hsum.1.tq; have e2 := hsum.1.tv
  simp only at e1 e2
  rw [e1, e2]
  exact li
end Go.SL

namespace Go.SL
open Go
def stepM (k : Int) (s : Sk) (m : Mv) : Except Int (Sk × Co) :=
  if k = 1 then fStep s m else if k = 2 then aStep s m else if k = 3 then sStep s m else if k = 4 then lStep s m else .error 10
theorem stepM_1 {k : Int} {s : Sk} {m : Mv} (h : k = 1) : stepM k s m = fStep s m := by unfold stepM; rw [if_pos h]
theorem stepM_2 {k : Int} {s : Sk} {m : Mv} (h : k = 2) : stepM k s m = aStep s m := by unfold stepM; rw [if_neg (by omega), if_pos h]
theorem stepM_3 {k : Int} {s : Sk} {m : Mv} (h : k = 3) : stepM k s m = sStep s m := by unfold stepM; rw [if_neg (by omega), if_neg (by omega), if_pos h]
theorem stepM_4 {k : Int} {s : Sk} {m : Mv} (h : k = 4) : stepM k s m = lStep s m := by unfold stepM; rw [if_neg (by omega), if_neg (by omega), if_neg (by omega), if_pos h]
theorem stepM_0 {k : Int} {s : Sk} {m : Mv} (h : ¬ k = 1 ∧ ¬ k = 2 ∧ ¬ k = 3 ∧ ¬ k = 4) : stepM k s m = .error 10 := by unfold stepM; rw [if_neg h.1, if_neg h.2.1, if_neg h.2.2.1, if_neg h.2.2.2]
def startE (k p : Int) : Int := if k < 1 ∨ 4 < k then 10 else if p < 0 ∨ 1000000000000 < p then 3 else 0
def sk0 : Sk := ⟨0, 0, 0, [], []⟩
def start0 (k p : Int) : Sk := if startE k p = 0 ∧ k = 3 then ⟨0, 0, p, [], []⟩ else sk0
theorem start0_c (k p : Int) : (start0 k p).c none 0 none 0 = [I 0, I 0, I (if startE k p = 0 ∧ k = 3 then p else 0), .slice none 0 0, .slice none 0 0] := by
  unfold start0; split <;> rfl
theorem start0_l (k p : Int) : (start0 k p).layers = [] := by unfold start0; split <;> rfl
theorem start0_p (k p : Int) : (start0 k p).past = [] := by unfold start0; split <;> rfl
theorem start0_q (k p : Int) : (start0 k p).qty = 0 := by unfold start0; split <;> rfl
theorem start0_v (k p : Int) : (start0 k p).value = 0 := by unfold start0; split <;> rfl
theorem start0_ok {k p : Int} (n : Nat) : (start0 k p).ok n := by
  refine ⟨by rw [start0_l]; simp, by rw [start0_p]; simp, fun i l h => by rw [start0_l] at h; simp at h, fun i l h => by rw [start0_p] at h; simp at h, by rw [start0_q]; decide, by rw [start0_v]; decide, ?_⟩
  unfold start0
  split
  · rename_i h
    have := h.1
    unfold startE at this
    split at this
    · cases this
    · split at this
      · cases this
      · constructor <;> simp only <;> omega
  · decide
theorem Sk.ok.mono {N M : Nat} {s : Sk} (h : s.ok N) (hm : N ≤ M) : s.ok M := ⟨Nat.le_trans h.nl hm, Nat.le_trans h.np hm, h.ly, h.pa, h.q, h.v, h.pr⟩
theorem stepM_ok {N : Nat} {k : Int} {s t : Sk} {m : Mv} {c : Co} (hs : s.ok N) (hm : m.ok) (h : stepM k s m = .ok (t, c)) : t.ok (N + 1) := by
  unfold stepM at h
  split at h
  · unfold fStep at h
    split at h
    · cases h
    split at h
    · cases h
    split at h
    · cases h
    rename_i hd
    split at h
    · cases h
    cases h
    exact summed_ok (fDo_ok hs hm hd)
  split at h
  · unfold aStep at h
    split at h
    · cases h
    split at h
    · cases h
    split at h
    · cases h
    rename_i hd
    split at h
    · cases h
    cases h
    exact summed_ok (aDo_ok hs hm hd)
  split at h
  · unfold sStep at h
    split at h
    · cases h
    split at h
    · cases h
    split at h
    · cases h
    rename_i hd
    split at h
    · cases h
    rename_i ho
    cases h
    have := (sDo_ok hs hm hd).1
    refine ⟨this.nl, this.np, this.ly, this.pa, W_i64 _, ?_, this.pr⟩
    show i64 (addN _ _)
    unfold addN; split
    · assumption
    · decide
  split at h
  · unfold lStep at h
    split at h
    · cases h
    split at h
    · cases h
    split at h
    · cases h
    rename_i hd
    split at h
    · cases h
    cases h
    exact summed_ok (lDo_ok hs hm hd)
  · cases h
theorem stepM_err {k : Int} {s : Sk} {m : Mv} {e : Int} (h : stepM k s m = .error e) : e ≠ 0 := by
  unfold stepM at h
  split at h
  · unfold fStep at h
    split at h
    · rename_i h1; cases h; exact h1
    split at h
    · cases h; decide
    split at h
    · rename_i hd; cases h; exact fDo_err hd
    split at h <;> cases h; decide
  split at h
  · unfold aStep at h
    split at h
    · rename_i h1; cases h; exact h1
    split at h
    · cases h; decide
    split at h
    · rename_i hd; cases h; exact aDo_err hd
    split at h <;> cases h; decide
  split at h
  · unfold sStep at h
    split at h
    · rename_i h1; cases h; exact h1
    split at h
    · cases h; decide
    split at h
    · rename_i hd; cases h; exact sDo_err hd
    split at h <;> cases h; decide
  split at h
  · unfold lStep at h
    split at h
    · rename_i h1; cases h; exact h1
    split at h
    · cases h; decide
    split at h
    · rename_i hd; cases h; exact lDo_err hd
    split at h <;> cases h; decide
  · cases h; decide
def runL {σ α ο : Type} (f : σ → α → Except Int (σ × ο)) : σ → List α → Except (Nat × Int) (σ × List ο)
  | s, [] => .ok (s, [])
  | s, m :: ms => match f s m with
    | .error e => .error (0, e)
    | .ok (t, c) => match runL f t ms with
      | .error (i, e) => .error (i + 1, e)
      | .ok (u, cs) => .ok (u, c :: cs)
theorem runL_app {σ α ο : Type} {f : σ → α → Except Int (σ × ο)} : ∀ (ms ns : List α) (s : σ), runL f s (ms ++ ns) = (match runL f s ms with
    | .error x => .error x
    | .ok (t, cs) => match runL f t ns with | .error (i, e) => .error (ms.length + i, e) | .ok (u, ds) => .ok (u, cs ++ ds))
  | [], ns, s => by
    simp only [List.nil_append, runL, List.length_nil, Nat.zero_add]
    rcases runL f s ns with ⟨i, e⟩ | ⟨u, ds⟩ <;> rfl
  | m :: ms, ns, s => by
    simp only [List.cons_append, runL]
    rcases f s m with e | ⟨t, c⟩
    · rfl
    · simp only [runL_app ms ns t]
      rcases runL f t ms with ⟨i, e⟩ | ⟨u, cs⟩
      · rfl
      · simp only
        rcases runL f u ns with ⟨j, e⟩ | ⟨v, ds⟩
        · simp only [List.length_cons]; congr 2; omega
        · rfl
theorem take_get {α : Type} {xs : List α} {i : Nat} {x : α} (h : xs[i]? = some x) : xs = xs.take i ++ x :: xs.drop (i + 1) := by
  obtain ⟨hi, rfl⟩ := List.getElem?_eq_some_iff.1 h
  rw [List.getElem_cons_drop hi, List.take_append_drop]
theorem take_succ_get {α : Type} {xs : List α} {i : Nat} {x : α} (h : xs[i]? = some x) : xs.take (i + 1) = xs.take i ++ [x] := by
  rw [List.take_add_one, h]; rfl
theorem runL_snoc {σ α ο : Type} {f : σ → α → Except Int (σ × ο)} {s u t : σ} {ms : List α} {cs : List ο} {i : Nat} {m : α} {c : ο} (h : runL f s (ms.take i) = .ok (u, cs)) (hx : ms[i]? = some m) (hf : f u m = .ok (t, c)) : runL f s (ms.take (i + 1)) = .ok (t, cs ++ [c]) := by
  rw [take_succ_get hx, runL_app, h]; simp only [runL, hf]
theorem runL_fail {σ α ο : Type} {f : σ → α → Except Int (σ × ο)} {s u : σ} {ms : List α} {cs : List ο} {i : Nat} {m : α} {e : Int} (h : runL f s (ms.take i) = .ok (u, cs)) (hx : ms[i]? = some m) (hf : f u m = .error e) : runL f s ms = .error (i, e) := by
  have hi := (List.getElem?_eq_some_iff.1 hx).1
  rw [take_get hx, runL_app, h]
  simp only [runL, hf, List.length_take, Nat.add_zero, Nat.min_eq_left (Nat.le_of_lt hi)]
theorem runL_all {σ α ο : Type} {f : σ → α → Except Int (σ × ο)} {s : σ} {ms : List α} {i : Nat} (h : i = ms.length) : runL f s ms = runL f s (ms.take i) := by rw [h, List.take_length]
theorem runL_len {σ α ο : Type} {f : σ → α → Except Int (σ × ο)} : ∀ {ms : List α} {s u : σ} {cs : List ο}, runL f s ms = .ok (u, cs) → cs.length = ms.length
  | [], s, u, cs, h => by cases h; rfl
  | m :: ms, s, u, cs, h => by
    unfold runL at h
    split at h
    · cases h
    split at h
    · cases h
    rename_i hr; cases h
    simp [runL_len hr]
theorem runL_err {k : Int} : ∀ {ms : List Mv} {s : Sk} {i : Nat} {e : Int}, runL (stepM k) s ms = .error (i, e) → e ≠ 0 ∧ i < ms.length
  | [], s, i, e, h => by cases h
  | m :: ms, s, i, e, h => by
    unfold runL at h
    split at h
    · rename_i he; cases h; exact ⟨stepM_err he, by simp⟩
    split at h
    · rename_i hr; cases h; have := runL_err hr; exact ⟨this.1, by simp only [List.length_cons]; omega⟩
    · cases h
theorem runL_ok {k : Int} : ∀ {ms : List Mv} {s u : Sk} {cs : List Co} {N : Nat}, (∀ m ∈ ms, m.ok) → s.ok N → runL (stepM k) s ms = .ok (u, cs) → u.ok (N + ms.length)
  | [], s, u, cs, N, hm, hs, h => by cases h; exact hs
  | m :: ms, s, u, cs, N, hm, hs, h => by
    unfold runL at h
    split at h
    · cases h
    rename_i hf
    split at h
    · cases h
    rename_i hr; cases h
    have := runL_ok (fun x hx => hm x (by simp [hx])) (stepM_ok hs (hm m (by simp)) hf) hr
    simp only [List.length_cons]; rw [show N + (ms.length + 1) = N + 1 + ms.length by omega]; exact this
def runM (k p : Int) (ms : List Mv) : Except (Int × Int) (Sk × List Co) :=
  if startE k p ≠ 0 then .error (-1, startE k p) else match runL (stepM k) (start0 k p) ms with | .error (i, e) => .error ((i : Int), e) | .ok x => .ok x
theorem runM_err {k p : Int} {ms : List Mv} {i e : Int} (h : runM k p ms = .error (i, e)) : e ≠ 0 := by
  unfold runM at h
  split at h
  · cases h; assumption
  · split at h
    · rename_i hr; cases h; exact (runL_err hr).1
    · cases h
def RunV (r : Except (Int × Int) (Sk × List Co)) (x : Option Addr × Nat × Option Addr × Nat × Option Addr × Nat) : Value :=
  match r with
  | .error (i, e) => .tuple ⟨[.agg ⟨[I 0, I 0, I 0, .slice none 0 0, .slice none 0 0]⟩, .slice none 0 0, I i, I e]⟩
  | .ok (t, cs) => .tuple ⟨[.agg ⟨t.c x.1 x.2.1 x.2.2.1 x.2.2.2.1⟩, .slice x.2.2.2.2.1 cs.length x.2.2.2.2.2, I (-1), I 0]⟩
def RunB (TL TP TC : Nat) (r : Except (Int × Int) (Sk × List Co)) (x : Option Addr × Nat × Option Addr × Nat × Option Addr × Nat) : List HP :=
  match r with
  | .error _ => []
  | .ok (t, cs) => [own TL 4 x.1 t.layers.length x.2.1 (t.layers.flatMap Ly.c), own TP 7 x.2.2.1 t.past.length x.2.2.2.1 (t.past.flatMap Pa.c), own TC 4 x.2.2.2.2.1 cs.length x.2.2.2.2.2 (cs.flatMap Co.c)]
def StS (r : Except Int (Sk × Co)) (x : Option Addr × Nat × Option Addr × Nat) : List Value :=
  match r with
  | .error _ => [I 0, I 0, I 0, .slice none 0 0, .slice none 0 0]
  | .ok (t, _) => t.c x.1 x.2.1 x.2.2.1 x.2.2.2
theorem StS_len {r : Except Int (Sk × Co)} {x : Option Addr × Nat × Option Addr × Nat} : (StS r x).length = 5 := by unfold StS; split <;> rfl
theorem StS_one {r : Except Int (Sk × Co)} {x : Option Addr × Nat × Option Addr × Nat} : ∀ v ∈ StS r x, Value.oneCell' v = true := by unfold StS; split <;> simp [Value.oneCell']
theorem StV_eq {r : Except Int (Sk × Co)} {x : Option Addr × Nat × Option Addr × Nat} : StV r x = .tuple ⟨[.agg ⟨StS r x⟩, .agg ⟨(avC r).c⟩, I (errOf r)]⟩ := by
  rcases r with e | ⟨t, c⟩ <;> rfl
theorem runM_no {k p : Int} {ms : List Mv} (h : startE k p ≠ 0) : runM k p ms = .error (-1, startE k p) := if_pos h
theorem runM_er {k p : Int} {ms : List Mv} {i : Nat} {e : Int} (h : startE k p = 0) (hr : runL (stepM k) (start0 k p) ms = .error (i, e)) : runM k p ms = .error ((i : Int), e) := by unfold runM; rw [if_neg (fun x => x h), hr]
theorem runM_ok {k p : Int} {ms : List Mv} {x : Sk × List Co} (h : startE k p = 0) (hr : runL (stepM k) (start0 k p) ms = .ok x) : runM k p ms = .ok x := by unfold runM; rw [if_neg (fun x => x h), hr]
theorem runM_iff {k p : Int} {ms : List Mv} {x : Sk × List Co} : runM k p ms = .ok x ↔ startE k p = 0 ∧ runL (stepM k) (start0 k p) ms = .ok x := by
  constructor
  · intro h
    unfold runM at h
    split at h
    · cases h
    · rename_i h0
      split at h
      · cases h
      · rename_i hr; cases h; exact ⟨Decidable.not_not.1 h0, hr⟩
  · rintro ⟨h1, h2⟩; exact runM_ok h1 h2
theorem Rd.mv {R : HP} {b o i : Nat} {ms : List Mv} {m : Mv} (hrd : Rd R ⟨b, o, none⟩ (ms.flatMap Mv.c)) (hx : ms[i]? = some m) (j : Nat) (v : Value) (hv : m.c[j]? = some v) : Rd R ⟨b, o + i * 8 + j, none⟩ [v] := (Rd.elem (k := 8) (fun _ => rfl) hrd hx).fld hv
theorem Rd.co {R : HP} {b o i : Nat} {cs : List Co} {c : Co} (hrd : Rd R ⟨b, o, none⟩ (cs.flatMap Co.c)) (hx : cs[i]? = some c) (j : Nat) (v : Value) (hv : c.c[j]? = some v) : Rd R ⟨b, o + i * 4 + j, none⟩ [v] := (Rd.elem (k := 4) (fun _ => rfl) hrd hx).fld hv
def Iv (n : Int) : List Value := [I n]
theorem Iv.one (n : Int) : ∀ v ∈ Iv n, Value.oneCell' v = true := by simp [Iv, Value.oneCell']
end Go.SL

namespace Go.SL
open Go
theorem runM_len {k p : Int} {ms : List Mv} {t : Sk} {cs : List Co} (h : runM k p ms = .ok (t, cs)) : cs.length = ms.length := runL_len (runM_iff.1 h).2
end Go.SL

namespace Go.SL
open Go
theorem neg_W {v : Int} (h : -9223372036854775807 ≤ v ∧ v ≤ 9223372036854775807) : W (0 - v) = -v := by rw [W_in ⟨by omega, by omega⟩]; omega
theorem aDo_f {s t : Sk} {m : Mv} {c : Co} (hs : SG s) (hv : 0 ≤ s.value) (hm : MG m) (h : aDo s m = .ok (t, c)) :
    PF s t m c ∧ t.qty = s.qty ∧ t.value = s.value ∧ c.seq = m.seq ∧ 0 ≤ s.qty + c.qty ∧ 0 ≤ s.value + c.value ∧ -2000000000000000 ≤ c.value ∧ c.value ≤ 2000000000000000 := by
  obtain ⟨q0, q1, v0, v1, ps⟩ := hs
  have mk := hm.k; have mq := hm.q; have mc := hm.c
  unfold aDo at h
  split at h
  · rename_i hk
    have hq := mq.2 (.inl hk)
    unfold aRecv at h; cases h
    refine ⟨⟨?_, ?_, ?_, ?_, ?_, fun _ => rfl, ?_, ?_, ?_, ?_⟩, rfl, rfl, rfl, ?_, ?_, ?_, ?_⟩ <;> (try simp only) <;> (try omega)
  split at h
  · rename_i hk1 hk
    have hq := mq.2 (.inr (.inl hk))
    unfold aIssue at h
    split at h
    · cases h
    · rename_i hlt
      cases h
      have hp := partN_le (v := s.value) (q := m.qty) (n := s.qty) hv (by omega) (by omega) (by omega) (by omega) (by omega)
      have hw : W (0 - m.qty) = -m.qty := neg_W ⟨by omega, by omega⟩
      have hw2 : W (0 - avgV s m) = -avgV s m := neg_W (by unfold avgV; omega)
      have hav : 0 ≤ avgV s m ∧ avgV s m ≤ s.value := hp
      rw [hw, hw2]
      refine ⟨⟨?_, ?_, ?_, ?_, ?_, ?_, fun _ => ?_, ?_, ?_, ?_⟩, rfl, rfl, rfl, ?_, ?_, ?_, ?_⟩ <;> (try simp only) <;> (try omega)
      · exact fun _ => ⟨trivial, by omega, by omega⟩
      · rw [Int.neg_neg]
  split at h
  · rename_i hk1 hk2 hk
    have hq := mq.2 (.inr (.inr (.inl hk)))
    unfold aBack at h
    split at h
    · cases h
    · rename_i i p hr
      cases h
      have hr' := refd_one (by decide) hr
      have hp := ps.all p (List.mem_of_getElem? hr'.1)
      have hb := back_good hp hq.1 hr'.2.2.2
      have hpv := hp.v1; have hpw := hp.w0
      refine ⟨⟨?_, ?_, ?_, ?_, ?_, ?_, ?_, fun _ => ⟨i, p, hr'.1, hr'.2.1, hr'.2.2.1, rfl, ?_, hr'.2.2.2⟩, ?_, ?_⟩, rfl, rfl, rfl, ?_, ?_, ?_, ?_⟩ <;> (try simp only) <;> (try omega)
  split at h
  · rename_i hk1 hk2 hk3 hk
    have hq := mq.2 (.inr (.inr (.inr hk)))
    unfold aSend at h
    split at h
    · cases h
    · rename_i i p hr
      split at h
      · cases h
      · rename_i hlt
        cases h
        have hr' := refd_one (by decide) hr
        have hp := partN_le (v := s.value) (q := m.qty) (n := s.qty) hv (by omega) (by omega) (by omega) (by omega) (by omega)
        have hav : 0 ≤ avgV s m ∧ avgV s m ≤ s.value := hp
        have hw : W (0 - m.qty) = -m.qty := neg_W ⟨by omega, by omega⟩
        have hw2 : W (0 - avgV s m) = -avgV s m := neg_W ⟨by omega, by omega⟩
        have hw3 : W (avgV s m - m.cost) = avgV s m - m.cost := wn ⟨by omega, by omega⟩ ⟨by omega, by omega⟩
        rw [hw, hw2, hw3]
        refine ⟨⟨?_, ?_, ?_, ?_, ?_, ?_, ?_, ?_, fun _ => ⟨i, p, hr'.1, hr'.2.1, hr'.2.2.1, rfl, hr'.2.2.2⟩, ?_⟩, rfl, rfl, rfl, ?_, ?_, ?_, ?_⟩ <;> (try simp only) <;> (try omega)
  split at h
  · rename_i hk1 hk2 hk3 hk4 hk
    have hq := mq.1 (.inl hk)
    unfold aLand at h
    split at h
    · cases h
    · rename_i i p hr
      cases h
      have hr' := refd_one (by decide) hr
      have hp := ps.all p (List.mem_of_getElem? hr'.1)
      have h1 := hp.q1; have h2 := hp.q2
      have hpl : 0 ≤ landV s p m ∧ landV s p m ≤ m.cost := partN_le mc.1 (by omega) (by split <;> omega) (by split <;> omega) h2 h1
      have hw : W (m.cost - landV s p m) = m.cost - landV s p m := wn ⟨by omega, by omega⟩ ⟨by omega, by omega⟩
      rw [hw]
      refine ⟨⟨?_, ?_, ?_, ?_, ?_, ?_, ?_, ?_, ?_, fun _ => rfl⟩, rfl, rfl, rfl, ?_, ?_, ?_, ?_⟩ <;> (try simp only) <;> (try omega)
  · cases h
theorem aStep_f {s t : Sk} {m : Mv} {c : Co} (hs : SG s) (hv : 0 ≤ s.value) (h : aStep s m = .ok (t, c)) : SF s t m c ∧ SG t ∧ 0 ≤ t.value := by
  unfold aStep at h
  split at h
  · cases h
  rename_i h1
  have hm := MG.of (Decidable.not_not.1 h1)
  split at h
  · cases h
  rename_i h2
  have hn := seqNew_of_none h2
  split at h
  · cases h
  rename_i t' c' hd
  split at h
  · cases h
  rename_i ho
  cases h
  obtain ⟨pf, tq, tv, cs, hq, hv', c0, c1⟩ := aDo_f hs hv hm hd
  unfold aOver at ho
  simp only [Bool.or_eq_true, not_or] at ho
  have ho1 := of_decide_eq_false (Bool.eq_false_iff.2 ho.1.1)
  have hsum := summed_f hs hm hn pf tq tv c0 c1 hq ⟨by omega, largeB_no ho.1.2, largeB_no ho.2⟩ c.seq cs
  have e2 := hsum.1.tv
  simp only at e2
  exact ⟨hsum.1, hsum.2, by rw [e2]; exact hv'⟩
theorem addLot_good {ls : List Ly} {lot : ByteArray} {q v : Int} (h : LGs ls) (hq : sumBy Ly.qty ls ≤ 1000000000) (hv : sumBy Ly.value ls ≤ 1000000000000000) (q0 : 0 ≤ q) (q1 : q ≤ 1000000000) (v0 : 0 ≤ v) (v1 : v ≤ 2000000000000000) (hn : lotF lot ls = none → 1 ≤ q) :
    LGs (addLot ls lot q v) ∧ sumBy Ly.qty (addLot ls lot q v) = sumBy Ly.qty ls + q ∧ sumBy Ly.value (addLot ls lot q v) = sumBy Ly.value ls + v := by
  unfold addLot
  split
  · rename_i i l hf
    have hx := (lotF_some hf).1
    have hl := h l (List.mem_of_getElem? hx)
    have hlq := sumBy_le h.q hx; have hlv := sumBy_le h.v hx
    have hl1 := hl.1; have hl2 := hl.2
    have e : bump l q v = { l with qty := l.qty + q, value := l.value + v } := by unfold bump; rw [W_in (show i64 (l.qty + q) from ⟨by omega, by omega⟩), W_in (show i64 (l.value + v) from ⟨by omega, by omega⟩)]
    rw [e]
    refine ⟨fun x hx' => ?_, ?_, ?_⟩
    · rcases mem_set hx' with rfl | hx'
      · exact ⟨by simp only; omega, by simp only; omega⟩
      · exact h x hx'
    · rw [sumBy_set _ _ _ _ _ hx]; simp only; omega
    · rw [sumBy_set _ _ _ _ _ hx]; simp only; omega
  · rename_i hf
    have hq1 := hn hf
    have e : bump (newLy lot) q v = ⟨0, lot, q, v⟩ := by unfold bump newLy; simp only [Int.zero_add]; rw [W_in (show i64 q from ⟨by omega, by omega⟩), W_in (show i64 v from ⟨by omega, by omega⟩)]
    rw [e]
    refine ⟨fun x hx' => ?_, sumBy_ins _ _ _ _, sumBy_ins _ _ _ _⟩
    rcases insL_mem hx' with rfl | hx'
    · exact ⟨hq1, v0⟩
    · exact h x hx'
theorem qtyLot_pos {ls : List Ly} {lot : ByteArray} (h : LGs ls) : 0 ≤ qtyLot ls lot ∧ (lotF lot ls = none → qtyLot ls lot = 0) := by
  unfold qtyLot
  split
  · rename_i hf; have := (h _ (List.mem_of_getElem? (lotF_some hf).1)).1; exact ⟨by omega, fun e => by rw [e] at hf; cases hf⟩
  · exact ⟨Int.le_refl _, fun _ => rfl⟩
theorem lDo_f {s t : Sk} {m : Mv} {c : Co} (hs : SG s) (hl : LI s.layers s.qty s.value) (hm : MG m) (h : lDo s m = .ok (t, c)) :
    PF s t m c ∧ t.qty = s.qty ∧ t.value = s.value ∧ LI t.layers (s.qty + c.qty) (s.value + c.value) ∧ -2000000000000000 ≤ c.value ∧ c.value ≤ 2000000000000000 := by
  obtain ⟨q0, q1, v0, v1, ps⟩ := hs
  obtain ⟨lg, lq, lv⟩ := hl
  have mk := hm.k; have mq := hm.q; have mc := hm.c
  unfold lDo at h
  split at h
  · rename_i hk
    have hq := mq.2 (.inl hk)
    unfold lRecv at h
    split at h
    · cases h
    cases h
    have ha := addLot_good (lot := m.lot) (q := m.qty) (v := m.cost) lg (by omega) (by omega) (by omega) hq.2 mc.1 (by omega) (fun _ => hq.1)
    refine ⟨⟨?_, ?_, ?_, ?_, ?_, fun _ => rfl, ?_, ?_, ?_, ?_⟩, rfl, rfl, ⟨ha.1, ?_, ?_⟩, ?_, ?_⟩ <;> (try simp only) <;> (try omega)
  split at h
  · rename_i hk1 hk
    have hq := mq.2 (.inr (.inl hk))
    unfold lIssue at h
    split at h
    · cases h
    rename_i i l hf
    split at h
    · cases h
    split at h
    · cases h
    rename_i hlt
    cases h
    have ht := takeL_good lg (lotF_some hf).1 hq.1 (by omega) (by omega) (by omega)
    have hw : W (0 - m.qty) = -m.qty := neg_W ⟨by omega, by omega⟩
    have hw2 : W (0 - takeV l m.qty) = -takeV l m.qty := neg_W ⟨by omega, by omega⟩
    rw [hw, hw2]
    refine ⟨⟨?_, ?_, ?_, ?_, ?_, ?_, fun _ => ?_, ?_, ?_, ?_⟩, rfl, rfl, ⟨ht.1, ?_, ?_⟩, ?_, ?_⟩ <;> (try simp only) <;> (try omega)
    · exact fun _ => ⟨trivial, by omega, by omega⟩
    · rw [Int.neg_neg]
  split at h
  · rename_i hk1 hk2 hk
    have hq := mq.2 (.inr (.inr (.inl hk)))
    unfold lBack lRef at h
    split at h
    · cases h
    rename_i i p hr
    unfold lBackR at h
    cases h
    have hr' := refd_one (by decide) hr
    have hp := ps.all p (List.mem_of_getElem? hr'.1)
    have hb := back_good hp hq.1 hr'.2.2.2
    have hpv := hp.v1; have hpw := hp.w0
    have ha := addLot_good (lot := p.lot) (q := m.qty) (v := backV p m) lg (by omega) (by omega) (by omega) hq.2 hb.2.2.2.1 (by omega) (fun _ => hq.1)
    refine ⟨⟨?_, ?_, ?_, ?_, ?_, ?_, ?_, fun _ => ⟨i, p, hr'.1, hr'.2.1, hr'.2.2.1, rfl, ?_, hr'.2.2.2⟩, ?_, ?_⟩, rfl, rfl, ⟨ha.1, ?_, ?_⟩, ?_, ?_⟩ <;> (try simp only) <;> (try omega)
  split at h
  · rename_i hk1 hk2 hk3 hk
    have hq := mq.2 (.inr (.inr (.inr hk)))
    unfold lSend lRef at h
    split at h
    · cases h
    rename_i i p hr
    unfold lSendR at h
    split at h
    · cases h
    rename_i j l hf
    split at h
    · cases h
    rename_i hlt
    cases h
    have hr' := refd_one (by decide) hr
    have ht := takeL_good lg (lotF_some hf).1 hq.1 (by omega) (by omega) (by omega)
    have hw : W (0 - m.qty) = -m.qty := neg_W ⟨by omega, by omega⟩
    have hw2 : W (0 - takeV l m.qty) = -takeV l m.qty := neg_W ⟨by omega, by omega⟩
    have hw3 : W (takeV l m.qty - m.cost) = takeV l m.qty - m.cost := wn ⟨by omega, by omega⟩ ⟨by omega, by omega⟩
    rw [hw, hw2, hw3]
    refine ⟨⟨?_, ?_, ?_, ?_, ?_, ?_, ?_, ?_, fun _ => ⟨i, p, hr'.1, hr'.2.1, hr'.2.2.1, rfl, hr'.2.2.2⟩, ?_⟩, rfl, rfl, ⟨ht.1, ?_, ?_⟩, ?_, ?_⟩ <;> (try simp only) <;> (try omega)
  split at h
  · rename_i hk1 hk2 hk3 hk4 hk
    have hq := mq.1 (.inl hk)
    unfold lLand lRef at h
    split at h
    · cases h
    rename_i i p hr
    have hr' := refd_one (by decide) hr
    have hp := ps.all p (List.mem_of_getElem? hr'.1)
    have h1 := hp.q1; have h2 := hp.q2
    unfold lLandR at h
    split at h
    · cases h
      refine ⟨⟨?_, ?_, ?_, ?_, ?_, ?_, ?_, ?_, ?_, fun _ => rfl⟩, rfl, rfl, ⟨lg, ?_, ?_⟩, ?_, ?_⟩ <;> (try simp only) <;> (try omega)
    · rename_i hz
      cases h
      have hqp := qtyLot_pos (lot := p.lot) lg
      have hlq : 0 ≤ lotQ s p ∧ lotQ s p ≤ p.qty := by unfold lotQ; split <;> omega
      have hpl := partN_le (v := m.cost) (q := lotQ s p) (n := p.qty) mc.1 (by omega) hlq.1 hlq.2 h2 h1
      have hne : lotF p.lot s.layers = none → (1 : Int) ≤ 0 := fun e => by
        exfalso; apply hz; unfold lotQ; rw [hqp.2 e, if_pos (by omega)]
      have ha := addLot_good (lot := p.lot) (q := 0) (v := partN m.cost (lotQ s p) p.qty) lg (by omega) (by omega) (Int.le_refl _) (by decide) hpl.1 (by omega) hne
      have hw : W (m.cost - partN m.cost (lotQ s p) p.qty) = m.cost - partN m.cost (lotQ s p) p.qty := wn ⟨by omega, by omega⟩ ⟨by omega, by omega⟩
      rw [hw]
      refine ⟨⟨?_, ?_, ?_, ?_, ?_, ?_, ?_, ?_, ?_, fun _ => rfl⟩, rfl, rfl, ⟨ha.1, ?_, ?_⟩, ?_, ?_⟩ <;> (try simp only) <;> (try omega)
  · cases h
theorem lStep_f {s t : Sk} {m : Mv} {c : Co} (hs : SG s) (hl : LI s.layers s.qty s.value) (h : lStep s m = .ok (t, c)) : SF s t m c ∧ SG t ∧ LI t.layers t.qty t.value := by
  unfold lStep at h
  split at h
  · cases h
  rename_i h1
  have hm := MG.of (Decidable.not_not.1 h1)
  split at h
  · cases h
  rename_i h2
  have hn := seqNew_of_none h2
  split at h
  · cases h
  rename_i t' c' hd
  split at h
  · cases h
  rename_i ho
  cases h
  obtain ⟨pf, tq, tv, li, c0, c1⟩ := lDo_f hs hl hm hd
  have ho' := (overB_no ho).2
  have hsum := summed_f hs hm hn pf tq tv c0 c1 li.nonneg.1 ho' m.seq rfl
  refine ⟨hsum.1, hsum.2, ?_⟩
  have e1 := hsum.1.tq; have e2 := hsum.1.tv
  simp only at e1 e2
  rw [e1, e2]
  exact li
theorem priceV_of {m : Mv} {p : Int} (h : ¬ priceE m p ≠ 0) : priceV m p = m.qty * p ∧ i64 (priceV m p) := by
  refine ⟨?_, priceV_i64⟩
  unfold priceE at h
  split at h
  · rename_i hk
    unfold priceV; rw [if_pos hk]
    unfold mulOk at hk; unfold mulN
    rw [if_pos (of_decide_eq_true hk)]
  · exact absurd (by decide) h
theorem sDo_f {s t : Sk} {m : Mv} {c : Co} (hs : SG s) (hp : 0 ≤ s.price ∧ s.price ≤ 1000000000000) (hm : MG m) (h : sDo s m ⟨0, 0, 0, 0⟩ = .ok (t, c)) (hv : -1000000000000000 ≤ s.value + c.value ∧ s.value + c.value ≤ 1000000000000000) :
    PF s t m c ∧ 0 ≤ s.qty + c.qty ∧ (0 ≤ t.price ∧ t.price ≤ 1000000000000) := by
  obtain ⟨q0, q1, v0, v1, ps⟩ := hs
  have mk := hm.k; have mq := hm.q; have mc := hm.c
  unfold sDo at h
  split at h
  · rename_i hk
    have hq := mq.2 (.inl hk)
    unfold sRecv at h
    split at h
    · cases h
    rename_i he
    cases h
    obtain ⟨e1, e2⟩ := priceV_of he
    have e3 : 0 ≤ priceV m s.price := by rw [e1]; exact Int.mul_nonneg (by omega) hp.1
    have hw : W (m.cost - priceV m s.price) = m.cost - priceV m s.price := W_in ⟨by omega, by omega⟩
    rw [hw]
    refine ⟨⟨?_, ?_, ?_, ?_, ?_, fun _ => rfl, ?_, ?_, ?_, ?_⟩, ?_, hp⟩ <;> (try simp only) <;> (try omega)
  split at h
  · rename_i hk1 hk
    have hq := mq.2 (.inr (.inl hk))
    unfold sIssue at h
    split at h
    · cases h
    split at h
    · cases h
    rename_i hlt he
    cases h
    obtain ⟨e1, e2⟩ := priceV_of he
    have e3 : 0 ≤ priceV m s.price := by rw [e1]; exact Int.mul_nonneg (by omega) hp.1
    have hw : W (0 - m.qty) = -m.qty := neg_W ⟨by omega, by omega⟩
    have hw2 : W (0 - priceV m s.price) = -priceV m s.price := neg_W ⟨by omega, by omega⟩
    rw [hw2] at hv
    rw [hw, hw2]
    simp only at hv
    refine ⟨⟨?_, ?_, ?_, ?_, ?_, ?_, fun _ => ?_, ?_, ?_, ?_⟩, ?_, hp⟩ <;> (try simp only) <;> (try omega)
    · exact fun _ => ⟨trivial, by omega, by omega⟩
    · rw [Int.neg_neg]
  split at h
  · rename_i hk1 hk2 hk
    have hq := mq.2 (.inr (.inr (.inl hk)))
    unfold sCust at h
    split at h
    · cases h
    rename_i i p hr
    split at h
    · cases h
    rename_i he
    cases h
    obtain ⟨e1, e2⟩ := priceV_of he
    have e3 : 0 ≤ priceV m s.price := by rw [e1]; exact Int.mul_nonneg (by omega) hp.1
    have hr' := refd_one (by decide) hr
    have hpp := ps.all p (List.mem_of_getElem? hr'.1)
    have hb := back_good hpp hq.1 hr'.2.2.2
    have hpv := hpp.v1; have hpw := hpp.w0
    have hw : W (backV p m - priceV m s.price) = backV p m - priceV m s.price := W_in ⟨by omega, by omega⟩
    rw [hw]
    refine ⟨⟨?_, ?_, ?_, ?_, ?_, ?_, ?_, fun _ => ⟨i, p, hr'.1, hr'.2.1, hr'.2.2.1, rfl, ?_, hr'.2.2.2⟩, ?_, ?_⟩, ?_, hp⟩ <;> (try simp only) <;> (try omega)
  split at h
  · rename_i hk1 hk2 hk3 hk
    have hq := mq.2 (.inr (.inr (.inr hk)))
    unfold sSupp at h
    split at h
    · cases h
    rename_i i p hr
    split at h
    · cases h
    split at h
    · cases h
    rename_i hlt he
    cases h
    obtain ⟨e1, e2⟩ := priceV_of he
    have e3 : 0 ≤ priceV m s.price := by rw [e1]; exact Int.mul_nonneg (by omega) hp.1
    have hr' := refd_one (by decide) hr
    have hw : W (0 - m.qty) = -m.qty := neg_W ⟨by omega, by omega⟩
    have hw2 : W (0 - priceV m s.price) = -priceV m s.price := neg_W ⟨by omega, by omega⟩
    have hw3 : W (priceV m s.price - m.cost) = priceV m s.price - m.cost := W_in ⟨by omega, by omega⟩
    rw [hw, hw2, hw3]
    refine ⟨⟨?_, ?_, ?_, ?_, ?_, ?_, ?_, ?_, fun _ => ⟨i, p, hr'.1, hr'.2.1, hr'.2.2.1, rfl, hr'.2.2.2⟩, ?_⟩, ?_, hp⟩ <;> (try simp only) <;> (try omega)
  split at h
  · rename_i hk1 hk2 hk3 hk4 hk
    have hq := mq.1 (.inl hk)
    unfold sLand at h
    split at h
    · cases h
    cases h
    refine ⟨⟨?_, ?_, ?_, ?_, ?_, ?_, ?_, ?_, ?_, fun _ => rfl⟩, ?_, hp⟩ <;> (try simp only) <;> (try omega)
  · rename_i hk1 hk2 hk3 hk4 hk5
    have hk : m.kind = 6 := by omega
    unfold sRepr at h
    split at h
    · cases h
    rename_i ho
    cases h
    simp only [Bool.or_eq_true, not_or, Bool.not_eq_true', Bool.not_eq_false] at ho
    have hw := withinB_yes ho.2
    have hw2 : W (0 - reprV s m) = -reprV s m := neg_W ⟨by omega, by omega⟩
    rw [hw2]
    refine ⟨⟨?_, ?_, ?_, ?_, ?_, ?_, ?_, ?_, ?_, fun _ => rfl⟩, ?_, mc⟩ <;> (try simp only) <;> (try omega)
theorem sStep_f {s t : Sk} {m : Mv} {c : Co} (hs : SG s) (hp : 0 ≤ s.price ∧ s.price ≤ 1000000000000) (h : sStep s m = .ok (t, c)) : SF s t m c ∧ SG t ∧ (0 ≤ t.price ∧ t.price ≤ 1000000000000) := by
  unfold sStep at h
  split at h
  · cases h
  rename_i h1
  have hm := MG.of (Decidable.not_not.1 h1)
  split at h
  · cases h
  rename_i h2
  have hn := seqNew_of_two hs.ps.all h2
  split at h
  · cases h
  rename_i t' c' hd
  split at h
  · cases h
  rename_i ho
  cases h
  unfold sOver at ho
  simp only [Bool.or_eq_true, not_or, Bool.not_eq_true', Bool.not_eq_false] at ho
  obtain ⟨⟨⟨a1, a2⟩, a3⟩, a4⟩ := ho
  have e1 : addN s.value c'.value = s.value + c'.value := by
    unfold addOk at a1
    unfold addN; exact if_pos (of_decide_eq_true a1)
  rw [e1] at a3
  have b3 := withinB_yes a3
  have b4 := withinB_yes a4
  obtain ⟨pf, hq, hp'⟩ := sDo_f hs hp hm hd b3
  have hcq := pf.cqb hm
  have e2 : W (s.qty + c'.qty) = s.qty + c'.qty := wq ⟨by have := hs.q0; omega, by have := hs.q1; omega⟩ ⟨by omega, by omega⟩
  have b2 := of_decide_eq_false (Bool.eq_false_iff.2 a2)
  rw [e2] at b2
  have e3 : sSum s t' c' = { t' with qty := s.qty + c'.qty, value := s.value + c'.value } := by unfold sSum; rw [e1, e2]
  rw [e3]
  exact ⟨⟨hm, hn, rfl, rfl, rfl, b4.1, b4.2, pf.reseq _ _ _⟩, ⟨hq, by simp only; omega, b3.1, b3.2, pf.past hm hn hs.ps⟩, hp'⟩
structure Inv (k : Int) (s : Sk) : Prop where
  sg : SG s
  li : k = 1 ∨ k = 4 → LI s.layers s.qty s.value
  av : k = 2 → 0 ≤ s.value
  pr : k = 3 → 0 ≤ s.price ∧ s.price ≤ 1000000000000
theorem stepM_f {k : Int} {s t : Sk} {m : Mv} {c : Co} (hi : Inv k s) (h : stepM k s m = .ok (t, c)) : SF s t m c ∧ Inv k t := by
  unfold stepM at h
  split at h
  · rename_i hk; have := fStep_f hi.sg (hi.li (.inl hk)) h; exact ⟨this.1, this.2.1, fun _ => this.2.2, fun e => by omega, fun e => by omega⟩
  split at h
  · rename_i hk1 hk; have := aStep_f hi.sg (hi.av hk) h; exact ⟨this.1, this.2.1, fun e => by omega, fun _ => this.2.2, fun e => by omega⟩
  split at h
  · rename_i hk1 hk2 hk; have := sStep_f hi.sg (hi.pr hk) h; exact ⟨this.1, this.2.1, fun e => by omega, fun e => by omega, fun _ => this.2.2⟩
  split at h
  · rename_i hk1 hk2 hk3 hk; have := lStep_f hi.sg (hi.li (.inr hk)) h; exact ⟨this.1, this.2.1, fun _ => this.2.2, fun e => by omega, fun e => by omega⟩
  · cases h
theorem start_inv (k p : Int) : Inv k (start0 k p) := by
  have hq := start0_q k p; have hv := start0_v k p; have hl := start0_l k p; have hp := start0_p k p
  refine ⟨⟨by omega, by omega, by omega, by omega, ?_⟩, fun _ => ?_, fun _ => by omega, fun hk => ?_⟩
  · rw [hp]; exact ⟨(fun p h => by cases h), by simp⟩
  · rw [hl, hq, hv]; exact ⟨(fun l h => by cases h), rfl, rfl⟩
  · unfold start0
    split
    · rename_i h
      have := h.1
      unfold startE at this
      split at this
      · cases this
      · split at this
        · cases this
        · simp only; omega
    · simp only [sk0]; omega
end Go.SL

namespace Go.SL
open Go
theorem runL_cons {k : Int} {m : Mv} {ms : List Mv} {s u : Sk} {cs : List Co} (h : runL (stepM k) s (m :: ms) = .ok (u, cs)) : ∃ t c ds, stepM k s m = .ok (t, c) ∧ runL (stepM k) t ms = .ok (u, ds) ∧ cs = c :: ds := by
  unfold runL at h
  split at h
  · cases h
  rename_i t c hf
  split at h
  · cases h
  rename_i v ds hr
  cases h
  exact ⟨t, c, ds, hf, hr, rfl⟩
theorem runL_each {k : Int} : ∀ {ms : List Mv} {s u : Sk} {cs : List Co}, Inv k s → runL (stepM k) s ms = .ok (u, cs) → Inv k u ∧ ∀ (i : Nat) (m : Mv) (c : Co), ms[i]? = some m → cs[i]? = some c → ∃ s1 t1, Inv k s1 ∧ Inv k t1 ∧ SF s1 t1 m c
  | [], s, u, cs, hi, h => by cases h; exact ⟨hi, fun i m c hm => by simp at hm⟩
  | m :: ms, s, u, cs, hi, h => by
    obtain ⟨t, c, ds, hf, hr, rfl⟩ := runL_cons h
    have h1 := stepM_f hi hf
    have h2 := runL_each h1.2 hr
    refine ⟨h2.1, fun i m' c' hm hc => ?_⟩
    cases i with
    | zero => simp at hm hc; subst hm hc; exact ⟨s, t, hi, h1.2, h1.1⟩
    | succ i => exact h2.2 i m' c' (by simpa using hm) (by simpa using hc)
theorem SF.vb {k : Int} {s t : Sk} {m : Mv} {c : Co} (hs : Inv k s) (ht : Inv k t) (h : SF s t m c) : -2000000000000000 ≤ c.value ∧ c.value ≤ 2000000000000000 := by
  have := h.tv; have := hs.sg.v0; have := hs.sg.v1; have := ht.sg.v0; have := ht.sg.v1; omega
structure EachOk (m : Mv) (c : Co) : Prop where
  k15 : m.kind = 1 ∨ m.kind = 5 → W (c.value + c.var) = m.cost
  k4 : m.kind = 4 → W (c.value + c.var) = W (0 - m.cost)
  k6 : m.kind = 6 → W (c.value + c.var) = 0
  k2 : m.kind = 2 → c.var = 0 ∧ c.value ≤ 0
theorem runM_seq {k p : Int} {ms : List Mv} {t : Sk} {cs : List Co} (h : runM k p ms = .ok (t, cs)) {i : Nat} {m : Mv} {c : Co} (hm : ms[i]? = some m) (hc : cs[i]? = some c) : c.seq = m.seq := by
  obtain ⟨_, _, _, _, hf⟩ := (runL_each (start_inv k p) (runM_iff.1 h).2).2 i m c hm hc
  exact hf.seq
theorem runL_take_ok {σ α ο : Type} {f : σ → α → Except Int (σ × ο)} {s t : σ} {ms : List α} {cs : List ο} {n : Nat} (h : runL f s ms = .ok (t, cs)) (hn : n ≤ ms.length) : ∃ u, runL f s (ms.take n) = .ok (u, cs.take n) := by
  have hl := runL_len h
  rw [← List.take_append_drop n ms, runL_app] at h
  split at h
  · cases h
  rename_i u ds h1
  split at h
  · cases h
  rename_i v es h2
  cases h
  have hd := runL_len h1
  rw [List.length_take, Nat.min_eq_left hn] at hd
  refine ⟨u, ?_⟩
  rw [h1, List.take_left' hd]
end Go.SL

namespace Go.SL
open Go
theorem RdS.take {α : Type} {enc : α → List Value} {R : HP} {oa : Option Addr} {xs : List α} (h : RdS R oa (xs.flatMap enc)) (n : Nat) : RdS R oa ((xs.take n).flatMap enc) := fun hp hr => by
  have e : xs.flatMap enc = (xs.take n).flatMap enc ++ (xs.drop n).flatMap enc := by rw [← List.flatMap_append, List.take_append_drop]
  rcases h hp hr with h | ⟨b, o, e1, c, t, fr, hb, hc⟩
  · left; rw [e] at h; exact (List.append_eq_nil_iff.1 h).1
  · refine .inr ⟨b, o, e1, c, t, fr, hb, fun j v hj => hc j v ?_⟩
    rw [e, List.getElem?_append_left (List.getElem?_eq_some_iff.1 hj).1]; exact hj
structure Kept (p p' : Pa) : Prop where
  seq : p'.seq = p.seq
  kind : p'.kind = p.kind
  qty : p'.qty = p.qty
  value : p'.value = p.value
structure RetOk (q v qty value : Int) : Prop where
  w : W (0 - value) = -value
  fv : v ≤ -value
  fq : q ≤ qty
  full : q = qty → v = -value
end Go.SL

namespace Go.SL
open Go
def Mv.rQty (m : Mv) : Bool := if inB m.kind 1 4 = true then inB m.qty 1 1000000000 else decide (m.qty = 0)
theorem rQty_eq {m : Mv} (h : inB m.kind 1 6 = true) : m.rQty = m.quantityOk := by
  simp only [Mv.rQty, Mv.quantityOk, inB, decide_eq_true_eq] at h ⊢
  by_cases h5 : m.kind = 5 ∨ m.kind = 6
  · rw [if_pos h5, if_neg (by omega)]
  · rw [if_neg h5, if_pos (by omega)]
theorem kind_two {k : Int} (h : inB k 1 6 = true) : (k = 1 ∨ k = 2) = ¬ 2 < k := by
  simp only [inB, decide_eq_true_eq] at h
  exact propext ⟨fun _ => by omega, fun _ => by omega⟩
theorem rcode_bad {s : ByteArray} {i : Nat} {u : UInt8} (h : s[i]? = some u) (hb : byteOk u = false) : codeB s = false := by
  unfold codeB; rw [everyB_false h hb, Bool.and_false]
theorem rcode_end {s : ByteArray} (h : ∀ (i : Nat) u, i < s.size → s[i]? = some u → byteOk u = true) (h1 : 1 ≤ (s.size : Int)) : codeB s = decide ((s.size : Int) ≤ 12) := by
  unfold codeB
  rw [everyB_true h, Bool.and_true, decide_eq_true (show s ≠ ⟨#[]⟩ from fun e => by rw [e] at h1; exact absurd h1 (by decide)), Bool.true_and]
theorem rcode_short {s : ByteArray} (h1 : ¬ 1 ≤ (s.size : Int)) : codeB s = false := by
  unfold codeB
  have : s = ⟨#[]⟩ := by
    obtain ⟨⟨l⟩⟩ := s
    have hl : l.length = 0 := by
      have : ((⟨⟨l⟩⟩ : ByteArray).size : Int) = (l.length : Int) := rfl
      omega
    cases l with
    | nil => rfl
    | cons a t => cases hl
  rw [this]; rfl
theorem Rd.pa {R : HP} {b o i : Nat} {ps : List Pa} {p : Pa} (hrd : Rd R ⟨b, o, none⟩ (ps.flatMap Pa.c)) (hx : ps[i]? = some p) (j : Nat) (v : Value) (hv : p.c[j]? = some v) : Rd R ⟨b, o + i * 7 + j, none⟩ [v] := (Rd.elem (k := 7) (fun _ => rfl) hrd hx).fld hv
theorem Rd.ly {R : HP} {b o i : Nat} {ls : List Ly} {l : Ly} (hrd : Rd R ⟨b, o, none⟩ (ls.flatMap Ly.c)) (hx : ls[i]? = some l) (j : Nat) (v : Value) (hv : l.c[j]? = some v) : Rd R ⟨b, o + i * 4 + j, none⟩ [v] := (Rd.elem (k := 4) (fun _ => rfl) hrd hx).fld hv
theorem near_eq {n : Int} : farB n = largeB n := by
  unfold farB largeB near
  split
  · rw [decide_eq_true (by omega), decide_eq_true (by omega)]
  · split
    · rw [decide_eq_true (by omega), decide_eq_true (by omega)]
    · rw [decide_eq_false (by omega), decide_eq_false (by omega)]
def fitsB (s : Sk) (v : Int) : Bool := !(decide (1000000000 < s.qty) || decide (1000000000000000 < s.value) || decide (s.value < -1000000000000000) || decide (1000000000000000 < v) || decide (v < -1000000000000000)) && s.layers.all (fun l => !(decide (1000000000000000 < l.value) || decide (l.value < -1000000000000000)))
theorem fits_no {s : Sk} {v : Int} (h : 1000000000 < s.qty ∨ 1000000000000000 < s.value ∨ s.value < -1000000000000000 ∨ 1000000000000000 < v ∨ v < -1000000000000000) : false = fitsB s v := by
  have : (decide (1000000000 < s.qty) || decide (1000000000000000 < s.value) || decide (s.value < -1000000000000000) || decide (1000000000000000 < v) || decide (v < -1000000000000000)) = true := by
    simp only [Bool.or_eq_true, decide_eq_true_eq]; omega
  unfold fitsB; rw [this]; rfl
theorem fits_ly {s : Sk} {v : Int} {i : Nat} {x : Ly} (hx : s.layers[i]? = some x) (h : 1000000000000000 < x.value ∨ x.value < -1000000000000000) : false = fitsB s v := by
  have : s.layers.all (fun l => !(decide (1000000000000000 < l.value) || decide (l.value < -1000000000000000))) = false := by
    rw [List.all_eq_false]; exact ⟨x, List.mem_of_getElem? hx, by simp only [Bool.not_eq_true, Bool.not_eq_false', Bool.or_eq_true, decide_eq_true_eq]; omega⟩
  unfold fitsB; rw [this, Bool.and_false]
theorem fits_yes {s : Sk} {v : Int} {i : Nat} (h : ¬ (1000000000 < s.qty ∨ 1000000000000000 < s.value ∨ s.value < -1000000000000000 ∨ 1000000000000000 < v ∨ v < -1000000000000000)) (hi : i = s.layers.length) (hn : ∀ j y, j < i → s.layers[j]? = some y → (decide (1000000000000000 < y.value) || decide (y.value < -1000000000000000)) = false) : true = fitsB s v := by
  have h1 : (decide (1000000000 < s.qty) || decide (1000000000000000 < s.value) || decide (s.value < -1000000000000000) || decide (1000000000000000 < v) || decide (v < -1000000000000000)) = false := by
    rw [Bool.eq_false_iff]; simp only [ne_eq, Bool.or_eq_true, decide_eq_true_eq]; omega
  have h2 : s.layers.all (fun l => !(decide (1000000000000000 < l.value) || decide (l.value < -1000000000000000))) = true := by
    rw [List.all_eq_true]; intro x hx
    obtain ⟨j, hj, rfl⟩ := List.getElem_of_mem hx
    rw [hn j _ (by omega) (List.getElem?_eq_getElem hj)]; rfl
  unfold fitsB; rw [h1, h2]; rfl
theorem large_or {n : Int} : (decide (1000000000000000 < n) || decide (n < -1000000000000000)) = largeB n := by
  unfold largeB; rw [Bool.eq_iff_iff]; simp
theorem fits_over {s : Sk} {c : Co} : fitsB s c.var = !overB s c := by
  have h1 : s.layers.all (fun l => !(decide (1000000000000000 < l.value) || decide (l.value < -1000000000000000))) = !(s.layers.any fun l => farB l.value) := by
    rw [← List.not_any_eq_all_not]
    congr 2
    funext l
    rw [near_eq, large_or]
  unfold fitsB overB
  rw [h1, near_eq, near_eq, ← large_or, ← large_or]
  cases s.layers.any fun l => farB l.value <;> simp [Bool.or_assoc]
theorem W_sub_zero {a b : Int} (ha : i64 a) (hb : i64 b) : W (a - b) = 0 ↔ a = b := by
  unfold W
  rw [IntKind.wrap_i64]; constructor <;> intro h <;> omega
attribute [irreducible] Mv.rQty fitsB
end Go.SL

namespace Go.SL
open Go
abbrev co0 : Co := ⟨0, 0, 0, 0⟩
def RmS (s : Sk) (la : Option Addr) (lc : Nat) (pa : Option Addr) (pc : Nat) (r : Except Int (Sk × Co)) (x : Option Addr × Nat × Option Addr × Nat) : List Value :=
  match r with
  | .error _ => s.c la lc pa pc
  | .ok (t, _) => t.c x.1 x.2.1 x.2.2.1 x.2.2.2
abbrev RmV (s : Sk) (la : Option Addr) (lc : Nat) (pa : Option Addr) (pc : Nat) (r : Except Int (Sk × Co)) (x : Option Addr × Nat × Option Addr × Nat) : Value := .tuple ⟨[.agg ⟨RmS s la lc pa pc r x⟩, .agg ⟨(avC r).c⟩, I (errOf r)]⟩
theorem RmS_len {s : Sk} {la : Option Addr} {lc : Nat} {pa : Option Addr} {pc : Nat} {r : Except Int (Sk × Co)} {x : Option Addr × Nat × Option Addr × Nat} : (RmS s la lc pa pc r x).length = 5 := by unfold RmS; split <;> rfl
theorem RmS_one {s : Sk} {la : Option Addr} {lc : Nat} {pa : Option Addr} {pc : Nat} {r : Except Int (Sk × Co)} {x : Option Addr × Nat × Option Addr × Nat} : ∀ v ∈ RmS s la lc pa pc r x, Value.oneCell' v = true := by unfold RmS; split <;> simp [Value.oneCell']
def Pa.fine (p : Pa) : Prop := (p.kind = 1 ∨ p.kind = 2) ∧ 0 ≤ W (p.qty - p.used)
def Sk.fine (s : Sk) : Prop := ∀ (i : Nat) (p : Pa), s.past[i]? = some p → p.fine
theorem takeL_eq {ls : List Ly} {i : Nat} {l : Ly} {q : Int} (hl : i64 l.qty) (hq : i64 q) (h : l.qty = q) : takeL ls i l q = ls.eraseIdx i := by
  unfold takeL; rw [if_pos ((W_sub_zero hl hq).2 h)]
theorem takeL_ne {ls : List Ly} {i : Nat} {l : Ly} {q : Int} (hl : i64 l.qty) (hq : i64 q) (h : ¬ l.qty = q) : takeL ls i l q = ls.set i (takeX l q) := by
  unfold takeL; rw [if_neg (fun e => h ((W_sub_zero hl hq).1 e))]
theorem erase_app {ls : List Ly} {i : Nat} : ([] ++ ls.take i) ++ ls.drop (i + 1) = ls.eraseIdx i := by
  rw [List.nil_append, List.eraseIdx_eq_take_drop_succ]
theorem known_eq {s : Sk} {seq : Int} (h : s.fine) : ((findI (isPast 1 seq) s.past).isSome || (findI (isPast 2 seq) s.past).isSome) = (findI (isPast 0 seq) s.past).isSome := by
  rw [Bool.eq_iff_iff, Bool.or_eq_true]
  constructor
  · rintro (h1 | h1)
    all_goals
      obtain ⟨⟨i, p⟩, hf⟩ := Option.isSome_iff_exists.1 h1
      obtain ⟨hx, hp⟩ := findI_some hf
      refine findI_isSome (List.mem_of_getElem? hx) ?_
      rw [isPast_iff] at hp ⊢
      exact ⟨hp.1, .inl rfl⟩
  · intro h1
    obtain ⟨⟨i, p⟩, hf⟩ := Option.isSome_iff_exists.1 h1
    obtain ⟨hx, hp⟩ := findI_some hf
    rw [isPast_iff] at hp
    rcases (h i p hx).1 with hk | hk
    · left; exact findI_isSome (List.mem_of_getElem? hx) (isPast_iff.2 ⟨hp.1, .inr hk⟩)
    · right; exact findI_isSome (List.mem_of_getElem? hx) (isPast_iff.2 ⟨hp.1, .inr hk⟩)
theorem fDo_seq {s : Sk} {m : Mv} : fDo s m ⟨m.seq, 0, 0, 0⟩ = match fDo s m co0 with | .error e => .error e | .ok (t, c) => .ok (t, { c with seq := m.seq }) := by
  unfold fDo
  split
  · rfl
  split
  · unfold fIssue; split <;> rfl
  split
  · unfold fBack; split <;> rfl
  split
  · unfold fSend; split
    · rfl
    · split
      · rfl
      · split <;> rfl
  split
  · unfold fLand; split
    · rfl
    · split <;> rfl
  · rfl
theorem refd_fine {m : Mv} {ps : List Pa} {k : Int} {i : Nat} {p : Pa} (hf : findI (isPast k m.ref) ps = some (i, p)) (h0 : m.qty = 0) (hg : ∀ (i : Nat) (p : Pa), ps[i]? = some p → 0 ≤ W (p.qty - p.used)) : refd k m ps = .ok (i, p) := by
  unfold refd
  rw [hf]
  have := hg i p (findI_some hf).1
  simp only
  rw [if_neg (by omega)]
theorem fLand_none {t : Sk} {m : Mv} (hf : findI (isPast 1 m.ref) t.past = none) : fLand t m co0 = .error 28 := by
  unfold fLand refd; rw [hf]
theorem fLand_no {t : Sk} {m : Mv} {i : Nat} {p : Pa} (hr : refd 1 m t.past = .ok (i, p)) (hf : findI (isLy m.ref) t.layers = none) (hc : i64 m.cost) : fLand t m co0 = .ok (t, ⟨0, 0, 0, m.cost⟩) := by
  unfold fLand; rw [hr]; simp only [hf]
  rw [show m.cost - (0 : Int) = m.cost by omega, W_in hc]
theorem fLand_ok {t : Sk} {m : Mv} {i j : Nat} {p : Pa} {l : Ly} (hr : refd 1 m t.past = .ok (i, p)) (hf : findI (isLy m.ref) t.layers = some (j, l)) : fLand t m co0 = .ok ({ t with layers := t.layers.set j { l with value := W (l.value + partN m.cost l.qty p.qty) } }, ⟨0, 0, partN m.cost l.qty p.qty, W (m.cost - partN m.cost l.qty p.qty)⟩) := by
  unfold fLand; rw [hr]; simp only [hf]
end Go.SL

namespace Go.SL
open Go
def takenV (t : Sk) (m : Mv) : Int := if t.qty < m.qty then 0 else avgV t m
def takenE (t : Sk) (m : Mv) : Int := if t.qty < m.qty then 21 else 0
def okIdx1 (r : Except Int (Nat × Pa)) : Int := match r with | .error _ => -1 | .ok (i, _) => (i : Int)
theorem set_same {α : Type} : ∀ {xs : List α} {i : Nat} {x : α}, xs[i]? = some x → xs.set i x = xs
  | [], _, _, h => by simp at h
  | y :: ys, 0, x, h => by simp at h; subst h; rfl
  | y :: ys, i + 1, x, h => by rw [List.set_cons_succ, set_same (by simpa using h)]
def Got (r : Except Int (Sk × Co)) (t : Sk) (c : Co) : Prop := ∀ t2 c2, r = .ok (t2, c2) → t = t2 ∧ c = c2
theorem Got.ok {r : Except Int (Sk × Co)} {t : Sk} {c : Co} (h : r = .ok (t, c)) : Got r t c := fun t2 c2 h2 => by
  rw [h] at h2; cases h2; exact ⟨rfl, rfl⟩
theorem Got.err {r : Except Int (Sk × Co)} {t : Sk} {c : Co} {e : Int} (h : r = .error e) : Got r t c := fun t2 c2 h2 => by
  rw [h] at h2; cases h2
theorem a1_got {t : Sk} {m : Mv} (hk : m.kind = 1) : errOf (aDo t m) = 0 ∧ Got (aDo t m) { t with past := t.past ++ [(⟨m.seq, 1, m.lot, m.qty, m.cost, 0, 0⟩ : Pa)] } ⟨m.seq, m.qty, m.cost, 0⟩ := by
  have h : aDo t m = .ok ({ t with past := t.past ++ [(⟨m.seq, 1, m.lot, m.qty, m.cost, 0, 0⟩ : Pa)] }, ⟨m.seq, m.qty, m.cost, 0⟩) := by
    rw [show aDo t m = aRecv t m from if_pos hk]; unfold aRecv; rw [hk]
  exact ⟨by rw [h]; rfl, .ok h⟩
theorem a2_got {t : Sk} {m : Mv} (hk : m.kind = 2) : errOf (aDo t m) = takenE t m ∧ Got (aDo t m) { t with past := t.past ++ [(⟨m.seq, 2, m.lot, m.qty, takenV t m, 0, 0⟩ : Pa)] } ⟨m.seq, W (0 - m.qty), W (0 - takenV t m), 0⟩ := by
  have e : aDo t m = aIssue t m := by unfold aDo; rw [if_neg (by omega), if_pos hk]
  unfold takenE takenV
  rw [e]; unfold aIssue
  by_cases h : t.qty < m.qty
  · rw [if_pos h, if_pos h, if_pos h]; exact ⟨rfl, .err rfl⟩
  · rw [if_neg h, if_neg h, if_neg h, hk]; exact ⟨rfl, .ok rfl⟩
theorem a6_got {t s : Sk} {c : Co} {m : Mv} (hk : ¬ m.kind = 1 ∧ ¬ m.kind = 2 ∧ ¬ m.kind = 3 ∧ ¬ m.kind = 4 ∧ ¬ m.kind = 5) : errOf (aDo t m) = 10 ∧ Got (aDo t m) s c := by
  have e : aDo t m = .error 10 := by unfold aDo; rw [if_neg hk.1, if_neg hk.2.1, if_neg hk.2.2.1, if_neg hk.2.2.2.1, if_neg hk.2.2.2.2]
  exact ⟨by rw [e]; rfl, .err e⟩
theorem ae_got {t s : Sk} {c : Co} {m : Mv} {e : Int} (hk : m.kind = 3 ∨ m.kind = 4 ∨ m.kind = 5) (hr : refd (if m.kind = 3 then 2 else 1) m t.past = .error e) : errOf (aDo t m) = e ∧ Got (aDo t m) s c := by
  have h : aDo t m = .error e := by
    unfold aDo
    rcases hk with hk | hk | hk
    · rw [if_pos hk] at hr
      rw [if_neg (by omega), if_neg (by omega), if_pos hk]; unfold aBack; rw [hr]
    · rw [if_neg (by omega)] at hr
      rw [if_neg (by omega), if_neg (by omega), if_neg (by omega), if_pos hk]; unfold aSend; rw [hr]
    · rw [if_neg (by omega)] at hr
      rw [if_neg (by omega), if_neg (by omega), if_neg (by omega), if_neg (by omega), if_pos hk]; unfold aLand; rw [hr]
  exact ⟨by rw [h]; rfl, .err h⟩
theorem a3_got {t : Sk} {m : Mv} {i : Nat} {p : Pa} (hk : m.kind = 3) (hr : refd 2 m t.past = .ok (i, p)) : errOf (aDo t m) = 0 ∧ Got (aDo t m) { t with past := t.past.set i (backP p m) } ⟨m.seq, m.qty, backV p m, 0⟩ := by
  have h : aDo t m = .ok ({ t with past := t.past.set i (backP p m) }, ⟨m.seq, m.qty, backV p m, 0⟩) := by
    unfold aDo; rw [if_neg (by omega), if_neg (by omega), if_pos hk]; unfold aBack; rw [hr]
  exact ⟨by rw [h]; rfl, .ok h⟩
theorem a4_got {t : Sk} {m : Mv} {i : Nat} {p : Pa} (hk : m.kind = 4) (hr : refd 1 m t.past = .ok (i, p)) : errOf (aDo t m) = takenE t m ∧ Got (aDo t m) { t with past := t.past.set i (sendP p m) } ⟨m.seq, W (0 - m.qty), W (0 - takenV t m), W (takenV t m - m.cost)⟩ := by
  have e : aDo t m = aSend t m := by unfold aDo; rw [if_neg (by omega), if_neg (by omega), if_neg (by omega), if_pos hk]
  unfold takenE takenV
  rw [e]; unfold aSend; rw [hr]; simp only
  by_cases h : t.qty < m.qty
  · rw [if_pos h, if_pos h, if_pos h]; exact ⟨rfl, .err rfl⟩
  · rw [if_neg h, if_neg h, if_neg h]; exact ⟨rfl, .ok rfl⟩
theorem a5_got {t : Sk} {m : Mv} {i : Nat} {p : Pa} (hk : m.kind = 5) (hr : refd 1 m t.past = .ok (i, p)) (h0 : m.qty = 0) (hx : t.past[i]? = some p) (hp : i64 p.used) : errOf (aDo t m) = 0 ∧ Got (aDo t m) { t with past := t.past.set i (sendP p m) } ⟨m.seq, 0, landV t p m, W (m.cost - landV t p m)⟩ := by
  have h : aDo t m = .ok (t, ⟨m.seq, 0, landV t p m, W (m.cost - landV t p m)⟩) := by
    unfold aDo; rw [if_neg (by omega), if_neg (by omega), if_neg (by omega), if_neg (by omega), if_pos hk]; unfold aLand; rw [hr]
  have hs : sendP p m = p := by unfold sendP; rw [h0, Int.add_zero, W_in hp]
  have h2 : { t with past := t.past.set i (sendP p m) } = t := by rw [hs, set_same hx]
  rw [h2]
  exact ⟨by rw [h]; rfl, .ok h⟩
theorem refd_ne {k : Int} {m : Mv} {ps : List Pa} {e : Int} (h : refd k m ps = .error e) : e ≠ 0 := by
  unfold refd at h
  split at h
  · cases h; decide
  · split at h
    · cases h; decide
    · cases h
end Go.SL

namespace Go.SL
open Go
theorem wide_words (a b : Int) (ha : u64 a) (hb : u64 b) :
    let a1 := a / 4294967296; let a0 := a % 4294967296; let b1 := b / 4294967296; let b0 := b % 4294967296
    let low := a0 * b0; let mid := a1 * b0 + low / 4294967296; let rest := a0 * b1 + mid % 4294967296
    (a1 * b1 + mid / 4294967296 + rest / 4294967296) * 18446744073709551616 + (rest % 4294967296 * 4294967296 + low % 4294967296) = a * b := by
  have h := mul_words a b ha hb
  simpa only [show (2 : Int) ^ 32 = 4294967296 from by decide] using h
theorem hi32' {a : Int} (h : u64 a) : 0 ≤ a / 4294967296 ∧ a / 4294967296 < 4294967296 := by constructor <;> omega
theorem words_tup {X Y ab : Int} (h : X * 18446744073709551616 + Y = ab) (hy : 0 ≤ Y ∧ Y < 18446744073709551616) : tup [U X, U Y] = .tuple ⟨[U (ab / 18446744073709551616), U (ab % 18446744073709551616)]⟩ := by
  have e1 : ab / 18446744073709551616 = X := by omega
  have e2 : ab % 18446744073709551616 = Y := by omega
  rw [e1, e2]; rfl
structure LInv (M c : Int) (i : Nat) (hi lo qh ql r : Int) : Prop where
  uh : u64 hi
  ul : u64 lo
  uqh : u64 qh
  uql : u64 ql
  r0 : 0 ≤ r
  rc : r < c
  st : ∃ T L : Int, 0 ≤ T ∧ T < 2 ^ i ∧ 0 ≤ L ∧ L < 2 ^ (128 - i) ∧ M = T * 2 ^ (128 - i) + L ∧ hi * 18446744073709551616 + lo = L * 2 ^ i ∧ T = (qh * 18446744073709551616 + ql) * c + r
theorem LInv.start {hi lo c : Int} (h1 : u64 hi) (h2 : u64 lo) (hc : 0 < c) : LInv (hi * 18446744073709551616 + lo) c 0 hi lo 0 0 0 :=
  ⟨h1, h2, by decide, by decide, by decide, hc, 0, hi * 18446744073709551616 + lo, by decide, by decide, by omega, by
    rw [show (2 : Int) ^ (128 - 0) = 340282366920938463463374607431768211456 from by decide]; omega, by omega, by simp, by simp⟩
theorem LInv.done {M c hi lo qh ql r : Int} (h : LInv M c 128 hi lo qh ql r) : qh = M / c / 18446744073709551616 ∧ ql = M / c % 18446744073709551616 ∧ r = M % c := by
  obtain ⟨u1, u2, u3, u4, r0, rc, T, L, t0, tw, l0, lp, hM, hN, hT⟩ := h
  simp only [Nat.sub_self, Int.pow_zero] at lp hM
  have hL : L = 0 := by omega
  subst hL
  have hc : 0 < c := by omega
  have hM' : M = T := by omega
  have := (Int.ediv_emod_unique (a := M) (b := c) (q := qh * 18446744073709551616 + ql) (r := r) hc).2 ⟨by rw [hM', hT, Int.mul_comm c]; omega, r0, rc⟩
  have hq := this.1
  refine ⟨?_, ?_, this.2.symm⟩
  · rw [hq]; omega
  · rw [hq]; omega
theorem LInv.step {M c hi lo qh ql r : Int} {i : Nat} (h : LInv M c i hi lo qh ql r) (hi128 : i < 128) (hcu : u64 c) :
    (9223372036854775808 ≤ r ∨ c ≤ (2 * r + hi / 9223372036854775808) % 18446744073709551616 → LInv M c (i + 1) (2 * hi % 18446744073709551616 + lo / 9223372036854775808) (2 * lo % 18446744073709551616) (2 * qh % 18446744073709551616 + ql / 9223372036854775808) (2 * ql % 18446744073709551616 + 1) (((2 * r + hi / 9223372036854775808) % 18446744073709551616 - c) % 18446744073709551616)) ∧
    (¬ 9223372036854775808 ≤ r ∧ ¬ c ≤ (2 * r + hi / 9223372036854775808) % 18446744073709551616 → LInv M c (i + 1) (2 * hi % 18446744073709551616 + lo / 9223372036854775808) (2 * lo % 18446744073709551616) (2 * qh % 18446744073709551616 + ql / 9223372036854775808) (2 * ql % 18446744073709551616) ((2 * r + hi / 9223372036854775808) % 18446744073709551616)) := by
  obtain ⟨u1, u2, u3, u4, r0, rc, T, L, t0, tw, l0, lp, hM, hN, hT⟩ := h
  have hc : 0 < c := by omega
  generalize hp : (2 : Int) ^ (128 - (i + 1)) = p at *
  have hp2 : (2 : Int) ^ (128 - i) = 2 * p := by rw [show 128 - i = (128 - (i + 1)) + 1 by omega, Int.pow_succ, hp]; omega
  have hpw : p * 2 ^ i = 170141183460469231731687303715884105728 := by
    rw [← hp, ← Int.pow_add, show 128 - (i + 1) + i = 127 by omega]; decide
  have hp0 : 0 < p := by rw [← hp]; exact pow_pos _
  have hw0 : (0 : Int) < 2 ^ i := pow_pos i
  have hw2 : (2 : Int) ^ (i + 1) = 2 * 2 ^ i := by rw [Int.pow_succ]; omega
  have hwle : (2 : Int) ^ i ≤ 170141183460469231731687303715884105728 := by
    have := le_mul_one (a := 2 ^ i) (b := p) (Int.le_of_lt hw0) hp0
    rw [Int.mul_comm, hpw] at this; exact this
  rw [hp2] at lp hM
  generalize (2 : Int) ^ i = w at *
  obtain ⟨b, hb⟩ : ∃ b, hi / 9223372036854775808 = b := ⟨_, rfl⟩
  have hb01 : b = 0 ∨ b = 1 := by omega
  -- the bit that goes by, and what is left behind it
  have hLb : 0 ≤ L - b * p ∧ L - b * p < p ∧ (L - b * p) * (2 * w) = (2 * hi % 18446744073709551616 + lo / 9223372036854775808) * 18446744073709551616 + 2 * lo % 18446744073709551616 := by
    have hlow : ∀ L' : Int, 0 ≤ L' → L' < p → 0 ≤ L' * w ∧ L' * w < 170141183460469231731687303715884105728 := fun L' h1 h2 =>
      ⟨Int.mul_nonneg h1 (Int.le_of_lt hw0), by rw [← hpw]; exact Int.mul_lt_mul_of_pos_right h2 hw0⟩
    by_cases hlt : L < p
    · have := hlow L l0 hlt
      have hb0 : b = 0 := by omega
      subst hb0
      have e : L * (2 * w) = 2 * (L * w) := by rw [Int.mul_left_comm]
      rw [Int.zero_mul, Int.sub_zero, e, ← hN]
      refine ⟨l0, hlt, ?_⟩; omega
    · have := hlow (L - p) (by omega) (by omega)
      have e0 : (L - p) * w = L * w - 170141183460469231731687303715884105728 := by rw [Int.sub_mul, hpw]
      rw [e0, ← hN] at this
      have hb1 : b = 1 := by omega
      subst hb1
      have e : (L - 1 * p) * (2 * w) = 2 * ((L - p) * w) := by rw [Int.one_mul, Int.mul_left_comm]
      rw [e, e0, ← hN]
      refine ⟨by omega, by omega, ?_⟩; omega
  have hM2 : M = (2 * T + b) * p + (L - b * p) := by
    rw [hM, Int.add_mul]
    have : T * (2 * p) = 2 * T * p := by rw [← Int.mul_assoc, Int.mul_comm T 2]
    rw [this]; omega
  have hQ : 0 ≤ qh * 18446744073709551616 + ql := by omega
  have hQT : qh * 18446744073709551616 + ql ≤ T := by
    have := le_mul_one hQ (show 1 ≤ c by omega)
    omega
  have h2T : 2 * T + b = 2 * ((qh * 18446744073709551616 + ql) * c) + (2 * r + b) := by omega
  have hqd : (2 * qh % 18446744073709551616 + ql / 9223372036854775808) * 18446744073709551616 + 2 * ql % 18446744073709551616 = 2 * (qh * 18446744073709551616 + ql) := by omega
  constructor
  · intro hge
    rw [hb] at hge ⊢
    have er : ((2 * r + b) % 18446744073709551616 - c) % 18446744073709551616 = 2 * r + b - c := by omega
    rw [er]
    refine ⟨by omega, by omega, by omega, by omega, by omega, by omega, 2 * T + b, L - b * p, by omega, by omega, hLb.1, by rw [hp]; exact hLb.2.1, by rw [hp]; exact hM2, by rw [hw2]; exact hLb.2.2.symm, ?_⟩
    have : (2 * qh % 18446744073709551616 + ql / 9223372036854775808) * 18446744073709551616 + (2 * ql % 18446744073709551616 + 1) = 2 * (qh * 18446744073709551616 + ql) + 1 := by omega
    rw [this, Int.add_mul, Int.mul_assoc, h2T]; omega
  · intro hlt
    rw [hb] at hlt ⊢
    have er : (2 * r + b) % 18446744073709551616 = 2 * r + b := by omega
    rw [er] at hlt ⊢
    refine ⟨by omega, by omega, by omega, by omega, by omega, by omega, 2 * T + b, L - b * p, by omega, by omega, hLb.1, by rw [hp]; exact hLb.2.1, by rw [hp]; exact hM2, by rw [hw2]; exact hLb.2.2.symm, ?_⟩
    rw [hqd, Int.mul_assoc, h2T]
theorem LInv.ret {M c hi lo qh ql r : Int} {i : Nat} (h : LInv M c i hi lo qh ql r) (hi128 : i = 128) : tup [U qh, U ql, U r] = .tuple ⟨[U (M / c / 18446744073709551616), U (M / c % 18446744073709551616), U (M % c)]⟩ := by
  subst hi128
  have := h.done
  rw [← this.1, ← this.2.1, ← this.2.2]; rfl
theorem away_2 {mode : Int} {neg odd : Bool} {r c : Int} (h : mode = 2) (hr : 0 ≤ r) : decide (0 < r) = awayB mode neg odd r c := by
  subst h; rw [Bool.eq_iff_iff]; simp [awayB]; omega
theorem away_3 {mode : Int} {neg odd : Bool} {r c : Int} (h : mode = 3) (hr : 0 ≤ r) (hrc : r < c) : decide (c - r ≤ r) = awayB mode neg odd r c := by
  subst h; rw [Bool.eq_iff_iff]; simp [awayB]; omega
theorem away_4a {mode : Int} {neg odd : Bool} {r c : Int} (h : mode = 4) (hrc : r < c) (hr : 0 ≤ r) (g : c - r < r) : true = awayB mode neg odd r c := by
  subst h; rw [Bool.eq_iff_iff]; simp [awayB, g]; omega
theorem away_4b {mode : Int} {neg odd : Bool} {r c : Int} (h : mode = 4) (hrc : r < c) (hr : 0 ≤ r) (g : r = c - r) : odd = awayB mode neg odd r c := by
  subst h
  have h0 : r ≠ 0 := by omega
  have h1 : ¬ c - r < r := by omega
  simp only [awayB, decide_eq_true h0, decide_eq_false h1, decide_eq_true g]
  cases odd <;> rfl
theorem away_4c {mode : Int} {neg odd : Bool} {r c : Int} (h : mode = 4) (g : ¬ c - r < r) (g2 : ¬ r = c - r) : false = awayB mode neg odd r c := by
  subst h; rw [Bool.eq_iff_iff]; simp [awayB, g, g2]
theorem away_5 {mode : Int} {neg odd : Bool} {r c : Int} (h : mode = 5) (hr : 0 ≤ r) (g : neg = true) : decide (0 < r) = awayB mode neg odd r c := by
  subst h; subst g; rw [Bool.eq_iff_iff]; simp [awayB]; omega
theorem away_5n {mode : Int} {neg odd : Bool} {r c : Int} (h : mode = 5) (g : neg = false) : false = awayB mode neg odd r c := by
  subst h; subst g; simp [awayB]
theorem away_no {mode : Int} {neg odd : Bool} {r c : Int} (h2 : ¬ mode = 2) (h3 : ¬ mode = 3) (h4 : ¬ mode = 4) (h5 : ¬ mode = 5) : false = awayB mode neg odd r c := by
  simp [awayB, h2, h3, h4, h5]
def nbB (a b c : Int) : Bool := (!decide ((!decide (decide (a < 0) = decide (b < 0))) = decide (c < 0)))
theorem nb_or (a b c : Int) : a * b = 0 ∨ nbB a b c = negB a b c := by
  by_cases hz : a * b = 0
  · exact .inl hz
  · right; unfold nbB negB; by_cases a < 0 <;> by_cases b < 0 <;> by_cases c < 0 <;> simp [*]
theorem away_nb (a b c mode : Int) (odd : Bool) : awayB mode (nbB a b c) odd (mag a * mag b % mag c) (mag c) = awayB mode (negB a b c) odd (mag a * mag b % mag c) (mag c) := by
  rcases nb_or a b c with h | h
  · rw [prod_zero.2 h, Int.zero_emod]; simp [awayB]
  · rw [h]
theorem md_nb {a b c mode : Int} (h : ¬ (mode < 1 ∨ 5 < mode)) (hc : c ≠ 0) {n e s : Int} (hn : n = signedN (nbB a b c) s) (he : e = signedE (nbB a b c) s) (hs : s = mdSize a b c mode) : tup [I n, I e] = .tuple ⟨[I (mdN a b c mode), I (mdE a b c mode)]⟩ := by
  rcases nb_or a b c with h0 | h0
  · have h1 := prod_zero.2 h0
    have : s = 0 := by rw [hs]; unfold mdSize; rw [h1, Int.zero_emod, Int.zero_ediv]; simp [awayB]
    subst this
    refine md_main h hc ?_ ?_ hs
    · rw [hn]; cases nbB a b c <;> cases negB a b c <;> simp [signedN]
    · rw [he]; cases nbB a b c <;> cases negB a b c <;> simp [signedE]
  · rw [h0] at hn he; exact md_main h hc hn he hs
theorem md_big {a b c mode s : Int} (h : ¬ (mode < 1 ∨ 5 < mode)) (hc : c ≠ 0) (hb : 9223372036854775808 < s) (hs : s ≤ mdSize a b c mode) : tup [I 0, I 4] = .tuple ⟨[I (mdN a b c mode), I (mdE a b c mode)]⟩ :=
  md_main h hc (by cases negB a b c <;> simp [signedN] <;> omega) (by cases negB a b c <;> simp [signedE] <;> omega) rfl
theorem md_top {a b c mode s : Int} (h : ¬ (mode < 1 ∨ 5 < mode)) (hc : c ≠ 0) (hb : s = 9223372036854775808) (hs : s = mdSize a b c mode) (hn : nbB a b c = false) : tup [I 0, I 4] = .tuple ⟨[I (mdN a b c mode), I (mdE a b c mode)]⟩ :=
  md_nb h hc (by rw [hn, hb]; simp [signedN]) (by rw [hn, hb]; simp [signedE]) hs
theorem md_bot {a b c mode s : Int} (h : ¬ (mode < 1 ∨ 5 < mode)) (hc : c ≠ 0) (hb : s = 9223372036854775808) (hs : s = mdSize a b c mode) (hn : nbB a b c = true) : tup [I (-9223372036854775808), I 0] = .tuple ⟨[I (mdN a b c mode), I (mdE a b c mode)]⟩ :=
  md_nb h hc (by rw [hn, hb]; simp [signedN]) (by rw [hn, hb]; simp [signedE]) hs
theorem md_neg {a b c mode s : Int} (h : ¬ (mode < 1 ∨ 5 < mode)) (hc : c ≠ 0) (h0 : 0 ≤ s) (hb : s < 9223372036854775808) (hs : s = mdSize a b c mode) (hn : nbB a b c = true) : tup [I (IntKind.i64.wrap (0 - IntKind.i64.wrap s)), I 0] = .tuple ⟨[I (mdN a b c mode), I (mdE a b c mode)]⟩ :=
  md_nb h hc (by rw [hn, show IntKind.i64.wrap (0 - IntKind.i64.wrap s) = -s by rw [IntKind.wrap_i64, IntKind.wrap_i64]; omega]; simp [signedN]; omega) (by rw [hn]; simp [signedE]; omega) hs
theorem md_pos {a b c mode s : Int} (h : ¬ (mode < 1 ∨ 5 < mode)) (hc : c ≠ 0) (h0 : 0 ≤ s) (hb : s < 9223372036854775808) (hs : s = mdSize a b c mode) (hn : nbB a b c = false) : tup [I (IntKind.i64.wrap s), I 0] = .tuple ⟨[I (mdN a b c mode), I (mdE a b c mode)]⟩ :=
  md_nb h hc (by rw [hn, wrap_i64_in ⟨by omega, by omega⟩]; simp [signedN]; omega) (by rw [hn]; simp [signedE]; omega) hs
theorem mag_conv_ref {n : Int} (h : i64 n) (hn : n < 0) : IntKind.u64.wrap (IntKind.u64.wrap (IntKind.i64.wrap (0 - IntKind.i64.wrap (n + 1))) + 1) = mag n := by
  rw [IntKind.wrap_i64, IntKind.wrap_i64, wrap_u64, wrap_u64]; unfold mag; rw [if_pos hn]; omega
theorem size_conv {n : Int} (h : i64 n) (hn : n < 0) : IntKind.u64.wrap (IntKind.u64.wrap (18446744073709551615 - IntKind.u64.wrap n) + 1) = mag n := by
  rw [wrap_u64, wrap_u64, wrap_u64]; unfold mag; rw [if_pos hn]; omega
theorem mneg {a b : Int} : a * b < 0 ↔ (a < 0 ∧ 0 < b) ∨ (0 < a ∧ b < 0) := by
  constructor
  · intro h
    rcases Int.lt_trichotomy a 0 with ha | ha | ha
    · left; refine ⟨ha, ?_⟩
      rcases Int.lt_trichotomy b 0 with hb | hb | hb
      · have := Int.mul_pos_of_neg_of_neg ha hb; omega
      · subst hb; simp at h
      · exact hb
    · subst ha; simp at h
    · right; refine ⟨ha, ?_⟩
      rcases Int.lt_trichotomy b 0 with hb | hb | hb
      · exact hb
      · subst hb; simp at h
      · have := Int.mul_pos ha hb; omega
  · rintro (⟨ha, hb⟩ | ⟨ha, hb⟩)
    · exact Int.mul_neg_of_neg_of_pos ha hb
    · exact Int.mul_neg_of_pos_of_neg ha hb
theorem lim_iff {x y m : Int} (hy : 0 < y) : m / y < x ↔ m < x * y := Int.ediv_lt_iff_lt_mul hy
theorem rmul_no {a b m : Int} (hy : 0 < mag b) (hx : m / mag b < mag a) (hm : m = if a * b < 0 then 9223372036854775808 else 9223372036854775807) : tup [I 0, Bo false] = .tuple ⟨[I (mulN a b), Bo (mulOk a b)]⟩ := by
  have h := (lim_iff hy).1 hx
  rw [mag_mul] at h
  unfold mag at h
  refine mul_no ?_
  split at hm <;> split at h <;> omega
theorem rmul_range {a b m : Int} (h : ¬ (0 < mag b ∧ m / mag b < mag a)) (hb : 0 ≤ mag b) (hm : m = if a * b < 0 then 9223372036854775808 else 9223372036854775807) : -9223372036854775808 ≤ a * b ∧ a * b ≤ 9223372036854775807 := by
  by_cases hy : 0 < mag b
  · have h1 : ¬ m < mag a * mag b := fun e => h ⟨hy, (lim_iff hy).2 e⟩
    rw [mag_mul] at h1
    unfold mag at h1
    split at hm <;> split at h1 <;> omega
  · have : b = 0 := mag_zero.1 (by omega)
    subst this; simp
theorem rmul_neg {a b : Int} (h : -9223372036854775808 ≤ a * b ∧ a * b ≤ 9223372036854775807) (hn : a * b < 0) : tup [I (IntKind.i64.wrap (0 - IntKind.i64.wrap (IntKind.u64.wrap (mag a * mag b)))), Bo true] = .tuple ⟨[I (mulN a b), Bo (mulOk a b)]⟩ := by
  rw [mag_mul, show mag (a * b) = -(a * b) by unfold mag; rw [if_pos hn], wrap_u64_in ⟨by omega, by omega⟩]
  have e : IntKind.i64.wrap (0 - IntKind.i64.wrap (-(a * b))) = a * b := by rw [IntKind.wrap_i64, IntKind.wrap_i64]; omega
  rw [e, mulN, mulOk, if_pos h, decide_eq_true h]; rfl
theorem rmul_pos {a b : Int} (h : -9223372036854775808 ≤ a * b ∧ a * b ≤ 9223372036854775807) (hn : ¬ a * b < 0) : tup [I (IntKind.i64.wrap (IntKind.u64.wrap (mag a * mag b))), Bo true] = .tuple ⟨[I (mulN a b), Bo (mulOk a b)]⟩ := by
  rw [mag_mul, show mag (a * b) = a * b by unfold mag; rw [if_neg hn], wrap_u64_in ⟨by omega, by omega⟩, wrap_i64_in h, mulN, mulOk, if_pos h, decide_eq_true h]; rfl
def valN (q p : Int) : Int := if mulOk q p = true then (if 1000000000000001 < mulN q p then 1000000000000001 else mulN q p) else 1000000000000001
attribute [irreducible] nbB valN
end Go.SL

namespace Go.SL
open Go
abbrev rsQ (s : Sk) (cq : Int) : Int := W (s.qty + cq)
abbrev rsV (s : Sk) (pr cq : Int) : Int := valN (rsQ s cq) pr
abbrev rsC (s : Sk) (pr cq : Int) : Int := W (rsV s pr cq - s.value)
def rsFin (s : Sk) (m : Mv) (pr cq : Int) (ps : Int → List Pa) (var : Int → Int) : Except Int (Sk × Co) :=
  if rsQ s cq < 0 then .error 21 else if 1000000000 < rsQ s cq ∨ withinB (rsV s pr cq) = false then .error 4 else
    if withinB (var (rsC s pr cq)) = false then .error 4 else
      .ok (⟨rsQ s cq, rsV s pr cq, pr, [], ps (rsC s pr cq)⟩, ⟨m.seq, cq, rsC s pr cq, var (rsC s pr cq)⟩)
def rsDo (s : Sk) (m : Mv) : Except Int (Sk × Co) :=
  if m.kind = 1 then rsFin s m s.price m.qty (fun _ => s.past ++ [(⟨m.seq, m.kind, m.lot, m.qty, m.cost, 0, 0⟩ : Pa)]) (fun cv => W (m.cost - cv))
  else if m.kind = 2 then rsFin s m s.price (W (0 - m.qty)) (fun cv => s.past ++ [(⟨m.seq, m.kind, m.lot, m.qty, W (0 - cv), 0, 0⟩ : Pa)]) (fun _ => 0)
  else if m.kind = 6 then rsFin s m m.cost 0 (fun _ => s.past) (fun cv => W (0 - cv))
  else match refd (if m.kind = 3 then 2 else 1) m s.past with
    | .error e => .error e
    | .ok (i, p) => if m.kind = 3 then rsFin s m s.price m.qty (fun _ => s.past.set i (backP p m)) (fun cv => W (backV p m - cv))
      else if m.kind = 4 then rsFin s m s.price (W (0 - m.qty)) (fun _ => s.past.set i (sendP p m)) (fun cv => W (W (0 - cv) - m.cost))
      else rsFin s m s.price 0 (fun _ => s.past) (fun _ => m.cost)
def rsStep (s : Sk) (m : Mv) : Except Int (Sk × Co) :=
  if m.one ≠ 0 then .error m.one else if (findI (isPast 0 m.seq) s.past).isSome = true then .error 8 else rsDo s m
section
variable {s : Sk} {m : Mv} {pr cq : Int} {ps : Int → List Pa} {var : Int → Int}
theorem rsFin_21 (h : rsQ s cq < 0) : rsFin s m pr cq ps var = .error 21 := if_pos h
theorem rsFin_4a (h : ¬ rsQ s cq < 0) (h2 : 1000000000 < rsQ s cq) : rsFin s m pr cq ps var = .error 4 := by unfold rsFin; rw [if_neg h, if_pos (.inl h2)]
theorem rsFin_4b (h : ¬ rsQ s cq < 0) (h2 : withinB (rsV s pr cq) = false) : rsFin s m pr cq ps var = .error 4 := by unfold rsFin; rw [if_neg h, if_pos (.inr h2)]
theorem rsFin_4c (h : ¬ rsQ s cq < 0) (h2 : ¬ 1000000000 < rsQ s cq) (h3 : withinB (rsV s pr cq) = true) (h4 : withinB (var (rsC s pr cq)) = false) : rsFin s m pr cq ps var = .error 4 := by
  unfold rsFin; rw [if_neg h, if_neg (by rw [h3]; simp; omega), if_pos h4]
theorem rsFin_ok (h : ¬ rsQ s cq < 0) (h2 : ¬ 1000000000 < rsQ s cq) (h3 : withinB (rsV s pr cq) = true) (h4 : withinB (var (rsC s pr cq)) = true) : rsFin s m pr cq ps var = .ok (⟨rsQ s cq, rsV s pr cq, pr, [], ps (rsC s pr cq)⟩, ⟨m.seq, cq, rsC s pr cq, var (rsC s pr cq)⟩) := by
  unfold rsFin; rw [if_neg h, if_neg (by rw [h3]; simp; omega), if_neg (by rw [h4]; simp)]
theorem rs_do (h1 : m.one = 0) (h2 : ¬ (findI (isPast 0 m.seq) s.past).isSome = true) : rsStep s m = rsDo s m := by unfold rsStep; rw [if_neg (by simp [h1]), if_neg h2]
theorem rs_1 (hk : m.kind = 1) : rsDo s m = rsFin s m s.price m.qty (fun _ => s.past ++ [(⟨m.seq, m.kind, m.lot, m.qty, m.cost, 0, 0⟩ : Pa)]) (fun cv => W (m.cost - cv)) := if_pos hk
theorem rs_2 (hk : m.kind = 2) : rsDo s m = rsFin s m s.price (W (0 - m.qty)) (fun cv => s.past ++ [(⟨m.seq, m.kind, m.lot, m.qty, W (0 - cv), 0, 0⟩ : Pa)]) (fun _ => 0) := by
  unfold rsDo; rw [if_neg (by omega), if_pos hk]
theorem rs_6 (hk : m.kind = 6) : rsDo s m = rsFin s m m.cost 0 (fun _ => s.past) (fun cv => W (0 - cv)) := by
  unfold rsDo; rw [if_neg (by omega), if_neg (by omega), if_pos hk]
theorem rs_e {e : Int} (hk : m.kind = 3 ∨ m.kind = 4 ∨ m.kind = 5) (hr : refd (if m.kind = 3 then 2 else 1) m s.past = .error e) : rsDo s m = .error e := by
  unfold rsDo; rw [if_neg (by omega), if_neg (by omega), if_neg (by omega), hr]
theorem rs_3 {i : Nat} {p : Pa} (hk : m.kind = 3) (hr : refd (if m.kind = 3 then 2 else 1) m s.past = .ok (i, p)) : rsDo s m = rsFin s m s.price m.qty (fun _ => s.past.set i (backP p m)) (fun cv => W (backV p m - cv)) := by
  unfold rsDo; rw [if_neg (by omega), if_neg (by omega), if_neg (by omega), hr]; exact if_pos hk
theorem rs_4 {i : Nat} {p : Pa} (hk : m.kind = 4) (hr : refd (if m.kind = 3 then 2 else 1) m s.past = .ok (i, p)) : rsDo s m = rsFin s m s.price (W (0 - m.qty)) (fun _ => s.past.set i (sendP p m)) (fun cv => W (W (0 - cv) - m.cost)) := by
  unfold rsDo; rw [if_neg (by omega), if_neg (by omega), if_neg (by omega), hr]; simp only; rw [if_neg (by omega), if_pos hk]
theorem rs_5 {i : Nat} {p : Pa} (hk : m.kind = 5) (hr : refd (if m.kind = 3 then 2 else 1) m s.past = .ok (i, p)) : rsDo s m = rsFin s m s.price 0 (fun _ => s.past) (fun _ => m.cost) := by
  unfold rsDo; rw [if_neg (by omega), if_neg (by omega), if_neg (by omega), hr]; simp only; rw [if_neg (by omega), if_neg (by omega)]
end
end Go.SL

namespace Go.SL
open Go
def isLot (lot : ByteArray) (l : Ly) : Bool := decide (l.lot = lot)
def rlF (lot : ByteArray) (ls : List Ly) : Option (Nat × Ly) := findI (isLot lot) ls
def rlQ (ls : List Ly) (lot : ByteArray) : Int := match rlF lot ls with | some (_, l) => l.qty | none => 0
def rlV (ls : List Ly) (lot : ByteArray) : Int := match rlF lot ls with | some (_, l) => l.value | none => 0
def putS (lot : ByteArray) (x : Ly) (a : Bool × List Ly) (l : Ly) : Bool × List Ly :=
  let b := !a.1 && !(Op.bytesLess l.lot.toList lot.toList)
  let o := if b = true then a.2 ++ [x] else a.2
  (a.1 || b, if l.lot ≠ lot then o ++ [l] else o)
def putF (lot : ByteArray) (x : Ly) (a : Bool × List Ly) (ls : List Ly) : Bool × List Ly := ls.foldl (putS lot x) a
def putE (x : Ly) (a : Bool × List Ly) : List Ly := if a.1 = true then a.2 else a.2 ++ [x]
def putL (ls : List Ly) (lot : ByteArray) (q v : Int) : List Ly := putE ⟨0, lot, q, v⟩ (putF lot ⟨0, lot, q, v⟩ (decide (q = 0), []) ls)
def addL (ls : List Ly) (lot : ByteArray) (q v : Int) : List Ly := putL ls lot (W (rlQ ls lot + q)) (W (rlV ls lot + v))
theorem putF_succ {lot : ByteArray} {x : Ly} {a : Bool × List Ly} {ls : List Ly} {i : Nat} {l : Ly} (h : ls[i]? = some l) : putF lot x a (ls.take (i + 1)) = putS lot x (putF lot x a (ls.take i)) l := by
  unfold putF; rw [List.take_add_one, h]; simp
def dn (b : Bool) : Nat := match b with | true => 0 | false => 1
theorem putS_len {lot : ByteArray} {x : Ly} {a : Bool × List Ly} {l : Ly} : (putS lot x a l).2.length + dn (putS lot x a l).1 ≤ a.2.length + dn a.1 + 1 := by
  unfold putS
  cases a.1 <;> cases Op.bytesLess l.lot.toList lot.toList <;> by_cases h : l.lot = lot <;> simp [h, dn] <;> omega
theorem putF_len {lot : ByteArray} {x : Ly} : ∀ {ls : List Ly} {a : Bool × List Ly}, (putF lot x a ls).2.length + dn (putF lot x a ls).1 ≤ a.2.length + dn a.1 + ls.length
  | [], a => Nat.le_refl _
  | l :: ls, a => by
    have h1 := @putS_len lot x a l
    have h2 := @putF_len lot x ls (putS lot x a l)
    have e : putF lot x a (l :: ls) = putF lot x (putS lot x a l) ls := rfl
    rw [e, List.length_cons]; omega
theorem putF_le {lot : ByteArray} {x : Ly} {d : Bool} {ls : List Ly} {i : Nat} (hn : ls.length ≤ 1000000) : (putF lot x (d, []) (ls.take i)).2.length ≤ 1000001 := by
  have h := @putF_len lot x (ls.take i) (d, [])
  have h2 : (ls.take i).length ≤ ls.length := by rw [List.length_take]; omega
  have h3 : dn d ≤ 1 := by cases d <;> decide
  simp only [List.length_nil] at h
  omega
theorem rl_i64 {ls : List Ly} (h : ∀ (i : Nat) (l : Ly), ls[i]? = some l → l.ok) (lot : ByteArray) : i64 (rlQ ls lot) ∧ i64 (rlV ls lot) := by
  unfold rlQ rlV
  split
  · rename_i i l hf
    have := h i l (findI_some hf).1
    exact ⟨this.1, this.2⟩
  · exact ⟨by decide, by decide⟩
abbrev rlP (ls : List Ly) (lot : ByteArray) (q : Int) : Int := partN (rlV ls lot) q (rlQ ls lot)
def rlRecv (t : Sk) (m : Mv) : Except Int (Sk × Co) :=
  if m.lot = ⟨#[]⟩ then .error 22 else .ok ({ t with layers := addL t.layers m.lot m.qty m.cost, past := t.past ++ [(⟨m.seq, 1, m.lot, m.qty, m.cost, 0, 0⟩ : Pa)] }, ⟨0, m.qty, m.cost, 0⟩)
def rlIssue (t : Sk) (m : Mv) : Except Int (Sk × Co) :=
  if m.lot = ⟨#[]⟩ then .error 22 else if idxOf (rlF m.lot t.layers) < 0 then .error 22 else if rlQ t.layers m.lot < m.qty then .error 21 else
    .ok ({ t with layers := addL t.layers m.lot (W (0 - m.qty)) (W (0 - rlP t.layers m.lot m.qty)), past := t.past ++ [(⟨m.seq, 2, m.lot, m.qty, rlP t.layers m.lot m.qty, 0, 0⟩ : Pa)] }, ⟨0, W (0 - m.qty), W (0 - rlP t.layers m.lot m.qty), 0⟩)
def rlBack (t : Sk) (m : Mv) : Except Int (Sk × Co) :=
  match refd 2 m t.past with
  | .error e => .error e
  | .ok (i, p) => .ok ({ t with layers := addL t.layers p.lot m.qty (backV p m), past := t.past.set i (backP p m) }, ⟨0, m.qty, backV p m, 0⟩)
def rlSend (t : Sk) (m : Mv) : Except Int (Sk × Co) :=
  match refd 1 m t.past with
  | .error e => .error e
  | .ok (i, p) => if rlQ t.layers p.lot < m.qty then .error 21 else
    .ok ({ t with layers := addL t.layers p.lot (W (0 - m.qty)) (W (0 - rlP t.layers p.lot m.qty)), past := t.past.set i (sendP p m) }, ⟨0, W (0 - m.qty), W (0 - rlP t.layers p.lot m.qty), W (rlP t.layers p.lot m.qty - m.cost)⟩)
def rlMin (t : Sk) (p : Pa) : Int := if rlQ t.layers p.lot < p.qty then rlQ t.layers p.lot else p.qty
def rlLand (t : Sk) (m : Mv) : Except Int (Sk × Co) :=
  match findI (isPast 1 m.ref) t.past with
  | none => .error 28
  | some (i, p) => if rlMin t p = 0 then .ok (t, ⟨0, 0, 0, m.cost⟩) else
    .ok ({ t with layers := addL t.layers p.lot 0 (partN m.cost (rlMin t p) p.qty) }, ⟨0, 0, partN m.cost (rlMin t p) p.qty, W (m.cost - partN m.cost (rlMin t p) p.qty)⟩)
def rlDo (t : Sk) (m : Mv) : Except Int (Sk × Co) :=
  if m.kind = 1 then rlRecv t m else if m.kind = 2 then rlIssue t m else if m.kind = 3 then rlBack t m else if m.kind = 4 then rlSend t m else if m.kind = 5 then rlLand t m else .error 10
def rlStep (s : Sk) (m : Mv) : Except Int (Sk × Co) :=
  if m.one ≠ 0 then .error m.one else if (findI (isPast 0 m.seq) s.past).isSome = true then .error 8 else
  match rlDo s m with
  | .error e => .error e
  | .ok (t, c) => if overB (summed t c) c = true then .error 4 else .ok (summed t c, { c with seq := m.seq })
theorem rlMin_i64 {t : Sk} {p : Pa} (h : ∀ (i : Nat) (l : Ly), t.layers[i]? = some l → l.ok) (hp : i64 p.qty) : i64 (rlMin t p) := by
  unfold rlMin; split
  · exact (rl_i64 h p.lot).1
  · exact hp
theorem rlDo_1 {t : Sk} {m : Mv} (h : m.kind = 1) : rlDo t m = rlRecv t m := if_pos h
theorem rlDo_2 {t : Sk} {m : Mv} (h : m.kind = 2) : rlDo t m = rlIssue t m := by unfold rlDo; rw [if_neg (by omega), if_pos h]
theorem rlDo_3 {t : Sk} {m : Mv} (h : m.kind = 3) : rlDo t m = rlBack t m := by unfold rlDo; rw [if_neg (by omega), if_neg (by omega), if_pos h]
theorem rlDo_4 {t : Sk} {m : Mv} (h : m.kind = 4) : rlDo t m = rlSend t m := by unfold rlDo; rw [if_neg (by omega), if_neg (by omega), if_neg (by omega), if_pos h]
theorem rlDo_5 {t : Sk} {m : Mv} (h : m.kind = 5) : rlDo t m = rlLand t m := by unfold rlDo; rw [if_neg (by omega), if_neg (by omega), if_neg (by omega), if_neg (by omega), if_pos h]
theorem rlDo_0 {t : Sk} {m : Mv} (h : ¬ m.kind = 1 ∧ ¬ m.kind = 2 ∧ ¬ m.kind = 3 ∧ ¬ m.kind = 4 ∧ ¬ m.kind = 5) : rlDo t m = .error 10 := by unfold rlDo; rw [if_neg h.1, if_neg h.2.1, if_neg h.2.2.1, if_neg h.2.2.2.1, if_neg h.2.2.2.2]
theorem rlDo_err {s : Sk} {m : Mv} {e : Int} (h : rlDo s m = .error e) : e ≠ 0 := by
  unfold rlDo at h
  split at h
  · unfold rlRecv at h; split at h <;> cases h; decide
  split at h
  · unfold rlIssue at h
    split at h
    · cases h; decide
    · split at h
      · cases h; decide
      · split at h <;> cases h; decide
  split at h
  · unfold rlBack at h
    split at h
    · rename_i hr; cases h; exact refd_ne hr
    · cases h
  split at h
  · unfold rlSend at h
    split at h
    · rename_i hr; cases h; exact refd_ne hr
    · split at h <;> cases h; decide
  split at h
  · unfold rlLand at h
    split at h
    · cases h; decide
    · split at h <;> cases h
  · cases h; decide
theorem putL_len {ls : List Ly} {lot : ByteArray} {q v : Int} : (putL ls lot q v).length ≤ ls.length + 1 := by
  have h := @putF_len lot ⟨0, lot, q, v⟩ ls (decide (q = 0), [])
  unfold putL putE
  have h3 : dn (decide (q = 0)) ≤ 1 := by cases decide (q = 0) <;> decide
  simp only [List.length_nil] at h
  split
  · omega
  · rename_i hd
    rw [List.length_append, List.length_singleton]
    cases hb : (putF lot ⟨0, lot, q, v⟩ (decide (q = 0), []) ls).1 with
    | true => exact absurd hb hd
    | false => rw [hb] at h; have h4 : dn false = 1 := rfl; omega
theorem rlDo_len {s t : Sk} {m : Mv} {c : Co} (h : rlDo s m = .ok (t, c)) : t.layers.length ≤ s.layers.length + 1 := by
  unfold rlDo at h
  split at h
  · unfold rlRecv at h; split at h <;> cases h; exact putL_len
  split at h
  · unfold rlIssue at h
    split at h
    · cases h
    · split at h
      · cases h
      · split at h <;> cases h; exact putL_len
  split at h
  · unfold rlBack at h
    split at h <;> cases h; exact putL_len
  split at h
  · unfold rlSend at h
    split at h
    · cases h
    · split at h <;> cases h; exact putL_len
  split at h
  · unfold rlLand at h
    split at h
    · cases h
    · split at h
      · cases h; exact Nat.le_succ _
      · cases h; exact putL_len
  · cases h
end Go.SL

namespace Go.SL
open Go
def rStepM (k : Int) (s : Sk) (m : Mv) : Except Int (Sk × Co) :=
  if k = 1 then fStep s m else if k = 2 then aStep s m else if k = 3 then rsStep s m else if k = 4 then rlStep s m else .error 10
theorem rStepM_1 {k : Int} {s : Sk} {m : Mv} (h : k = 1) : rStepM k s m = fStep s m := by unfold rStepM; rw [if_pos h]
theorem rStepM_2 {k : Int} {s : Sk} {m : Mv} (h : k = 2) : rStepM k s m = aStep s m := by unfold rStepM; rw [if_neg (by omega), if_pos h]
theorem rStepM_3 {k : Int} {s : Sk} {m : Mv} (h : k = 3) : rStepM k s m = rsStep s m := by unfold rStepM; rw [if_neg (by omega), if_neg (by omega), if_pos h]
theorem rStepM_4 {k : Int} {s : Sk} {m : Mv} (h : k = 4) : rStepM k s m = rlStep s m := by unfold rStepM; rw [if_neg (by omega), if_neg (by omega), if_neg (by omega), if_pos h]
theorem rStepM_0 {k : Int} {s : Sk} {m : Mv} (h : ¬ k = 1 ∧ ¬ k = 2 ∧ ¬ k = 3 ∧ ¬ k = 4) : rStepM k s m = .error 10 := by unfold rStepM; rw [if_neg h.1, if_neg h.2.1, if_neg h.2.2.1, if_neg h.2.2.2]
end Go.SL

namespace Go.SL
open Go
structure S3 (s : Sk) : Prop where
  sg : SG s
  p0 : 0 ≤ s.price
  p1 : s.price ≤ 1000000000000
  vq : s.value = s.qty * s.price
  ly : s.layers = []
theorem within_iff {n : Int} : withinB n = true ↔ -1000000000000000 ≤ n ∧ n ≤ 1000000000000000 := by unfold withinB; simp
theorem withinF {n : Int} (h : ¬ (-1000000000000000 ≤ n ∧ n ≤ 1000000000000000)) : withinB n = false := by
  rw [Bool.eq_false_iff]; exact fun e => h (within_iff.1 e)
theorem mul_of {a b : Int} (h : -9223372036854775808 ≤ a * b ∧ a * b ≤ 9223372036854775807) : mulOk a b = true ∧ mulN a b = a * b := by
  unfold mulOk mulN; exact ⟨decide_eq_true h, if_pos h⟩
theorem mul_not {a b : Int} (h : ¬ (-9223372036854775808 ≤ a * b ∧ a * b ≤ 9223372036854775807)) : mulOk a b = false := by unfold mulOk; exact decide_eq_false h
theorem valN_of {q p : Int} (h0 : 0 ≤ q * p) : (q * p ≤ 1000000000000000 → valN q p = q * p) ∧ (1000000000000000 < q * p → withinB (valN q p) = false) := by
  constructor
  · intro h
    have := mul_of (a := q) (b := p) ⟨by omega, by omega⟩
    unfold valN; rw [if_pos this.1, this.2, if_neg (by omega)]
  · intro h
    unfold valN
    split
    · rename_i hm
      have : mulN q p = q * p := by
        unfold mulOk at hm; unfold mulN; exact if_pos (of_decide_eq_true hm)
      rw [this]; split
      · exact withinF (n := 1000000000000001) (by decide)
      · exact withinF (by omega)
    · exact withinF (n := 1000000000000001) (by decide)
theorem rsFin_nice {s : Sk} {m : Mv} {pr cq : Int} {ps : Int → List Pa} {var : Int → Int} (hq : W (s.qty + cq) = s.qty + cq) (h0 : 0 ≤ s.qty + cq) (hq1 : s.qty + cq ≤ 1000000000) (hp : 0 ≤ (s.qty + cq) * pr) (hv : (s.qty + cq) * pr ≤ 1000000000000000) (hs : -1000000000000000 ≤ s.value ∧ s.value ≤ 1000000000000000) :
    rsFin s m pr cq ps var = if withinB (var ((s.qty + cq) * pr - s.value)) = false then .error 4 else .ok (⟨s.qty + cq, (s.qty + cq) * pr, pr, [], ps ((s.qty + cq) * pr - s.value)⟩, ⟨m.seq, cq, (s.qty + cq) * pr - s.value, var ((s.qty + cq) * pr - s.value)⟩) := by
  have e1 : rsV s pr cq = (s.qty + cq) * pr := by unfold rsV rsQ; rw [hq]; exact (valN_of hp).1 hv
  have e2 : rsC s pr cq = (s.qty + cq) * pr - s.value := by unfold rsC; rw [e1]; exact W_in ⟨by omega, by omega⟩
  unfold rsFin
  rw [e2, e1]
  unfold rsQ
  rw [hq, if_neg (by omega), if_neg (by rw [within_iff.2 ⟨by omega, hv⟩]; simp; omega)]
theorem rsFin_big {s : Sk} {m : Mv} {pr cq : Int} {ps : Int → List Pa} {var : Int → Int} (hq : W (s.qty + cq) = s.qty + cq) (h0 : 0 ≤ s.qty + cq) (hp : 0 ≤ (s.qty + cq) * pr) (hv : 1000000000 < s.qty + cq ∨ 1000000000000000 < (s.qty + cq) * pr) :
    rsFin s m pr cq ps var = .error 4 := by
  unfold rsFin rsQ
  rw [hq, if_neg (by omega)]
  refine if_pos ?_
  rcases hv with hv | hv
  · exact .inl hv
  · right; unfold rsV rsQ; rw [hq]; exact (valN_of hp).2 hv
def sEnd (s t : Sk) (m : Mv) (c : Co) : Except Int (Sk × Co) := if sOver s t c = true then .error 4 else .ok (sSum s t c, { c with seq := m.seq })
theorem sEnd_nice {s t : Sk} {m : Mv} {c : Co} (hq : W (s.qty + c.qty) = s.qty + c.qty) (hq1 : s.qty + c.qty ≤ 1000000000) (hv : -1000000000000000 ≤ s.value + c.value ∧ s.value + c.value ≤ 1000000000000000) :
    sEnd s t m c = if withinB c.var = false then .error 4 else .ok ({ t with qty := s.qty + c.qty, value := s.value + c.value }, { c with seq := m.seq }) := by
  have e1 : addN s.value c.value = s.value + c.value := by unfold addN; exact if_pos ⟨by omega, by omega⟩
  have e2 : addOk s.value c.value = true := by unfold addOk; exact decide_eq_true ⟨by omega, by omega⟩
  unfold sEnd sOver sSum
  rw [e1, e2, hq, within_iff.2 hv, decide_eq_false (by omega)]
  cases withinB c.var <;> simp
theorem sEnd_big {s t : Sk} {m : Mv} {c : Co} (hq : W (s.qty + c.qty) = s.qty + c.qty) (hv : 1000000000 < s.qty + c.qty ∨ 1000000000000000 < s.value + c.value) : sEnd s t m c = .error 4 := by
  unfold sEnd sOver
  refine if_pos ?_
  rcases hv with hv | hv
  · rw [hq, decide_eq_true hv]; simp
  · by_cases ha : -9223372036854775808 ≤ s.value + c.value ∧ s.value + c.value ≤ 9223372036854775807
    · have e1 : addN s.value c.value = s.value + c.value := by unfold addN; exact if_pos ha
      rw [e1, withinF (n := s.value + c.value) (by omega)]; simp
    · have e2 : addOk s.value c.value = false := by unfold addOk; exact decide_eq_false ha
      rw [e2]; simp
theorem SG.fine {s : Sk} (h : SG s) : s.fine := fun i p hx => by
  have g := h.ps.all p (List.mem_of_getElem? hx)
  refine ⟨g.kd, ?_⟩
  have := g.u0; have := g.u1; have := g.q1; have := g.q2
  rw [W_in ⟨by omega, by omega⟩]; omega
theorem sStep_end {s : Sk} {m : Mv} (h1 : m.one = 0) (h2 : ¬ (findI (isPast 0 m.seq) s.past).isSome = true) (hf : s.fine) : sStep s m = match sDo s m ⟨0, 0, 0, 0⟩ with | .error e => .error e | .ok (t, c) => sEnd s t m c := by
  unfold sStep
  rw [if_neg (by simp [h1]), if_neg (by rw [known_eq hf]; exact h2)]
  rfl
theorem rs_up {s t : Sk} {m : Mv} {ps : Int → List Pa} {var : Int → Int} {v : Int} (h : S3 s) (hg : MG m) (hk : m.kind = 1 ∨ m.kind = 3) (ht : t = { s with past := ps (m.qty * s.price) }) (hv : v = var (m.qty * s.price)) :
    rsFin s m s.price m.qty ps var = if priceE m s.price ≠ 0 then .error (priceE m s.price) else sEnd s t m ⟨0, m.qty, priceV m s.price, v⟩ := by
  have hq := hg.q.2 (by omega)
  have q0 := h.sg.q0; have q1 := h.sg.q1; have v0 := h.sg.v0; have v1 := h.sg.v1
  have hp0 := h.p0
  have hmp : 0 ≤ m.qty * s.price := Int.mul_nonneg (by omega) hp0
  have hsp : 0 ≤ s.value := by rw [h.vq]; exact Int.mul_nonneg q0 hp0
  have hsum : (s.qty + m.qty) * s.price = s.value + m.qty * s.price := by rw [Int.add_mul, ← h.vq]
  have hW : W (s.qty + m.qty) = s.qty + m.qty := W_in ⟨by omega, by omega⟩
  subst hv
  by_cases hbig : 1000000000 < s.qty + m.qty ∨ 1000000000000000 < (s.qty + m.qty) * s.price
  · rw [rsFin_big hW (by omega) (by rw [hsum]; omega) hbig]
    by_cases he : priceE m s.price ≠ 0
    · rw [if_pos he]
      have : priceE m s.price = 4 := by unfold priceE at he ⊢; split <;> simp_all
      rw [this]
    · rw [if_neg he]
      have hpv := (priceV_of he).1
      refine (sEnd_big hW ?_).symm
      simp only
      rw [hpv, ← hsum]; exact hbig
  · have hb : s.qty + m.qty ≤ 1000000000 ∧ (s.qty + m.qty) * s.price ≤ 1000000000000000 := by omega
    have hm := mul_of (a := m.qty) (b := s.price) ⟨by omega, by omega⟩
    have he : ¬ priceE m s.price ≠ 0 := by unfold priceE; rw [if_pos hm.1]; decide
    have hpv := (priceV_of he).1
    have hcv : (s.qty + m.qty) * s.price - s.value = m.qty * s.price := by omega
    rw [if_neg he, rsFin_nice hW (by omega) hb.1 (by rw [hsum]; omega) hb.2 ⟨v0, v1⟩, sEnd_nice hW hb.1 (by simp only; rw [hpv]; omega), hcv, hpv, ht]
    simp only
    rw [hsum]
    cases withinB (var (m.qty * s.price)) <;> simp [h.ly]
theorem rs_down {s t : Sk} {m : Mv} {ps : Int → List Pa} {var : Int → Int} {v : Int} (h : S3 s) (hg : MG m) (hk : m.kind = 2 ∨ m.kind = 4) (ht : t = { s with past := ps (-(m.qty * s.price)) }) (hv : v = var (-(m.qty * s.price))) :
    rsFin s m s.price (W (0 - m.qty)) ps var = if s.qty < m.qty then .error 21 else if priceE m s.price ≠ 0 then .error (priceE m s.price) else sEnd s t m ⟨0, W (0 - m.qty), W (0 - priceV m s.price), v⟩ := by
  have hq := hg.q.2 (by omega)
  have q0 := h.sg.q0; have q1 := h.sg.q1; have v0 := h.sg.v0; have v1 := h.sg.v1
  have hp0 := h.p0
  have hn : W (0 - m.qty) = -m.qty := neg_W ⟨by omega, by omega⟩
  have hmp : 0 ≤ m.qty * s.price := Int.mul_nonneg (by omega) hp0
  have hW : W (s.qty + -m.qty) = s.qty + -m.qty := W_in ⟨by omega, by omega⟩
  rw [hn]
  subst hv
  by_cases hlt : s.qty < m.qty
  · rw [if_pos hlt]; exact rsFin_21 (by unfold rsQ; rw [hW]; omega)
  · rw [if_neg hlt]
    have hle : m.qty * s.price ≤ s.value := by rw [h.vq]; exact Int.mul_le_mul_of_nonneg_right (by omega) hp0
    have hsum : (s.qty + -m.qty) * s.price = s.value - m.qty * s.price := by rw [Int.add_mul, ← h.vq, Int.neg_mul]; omega
    have hm := mul_of (a := m.qty) (b := s.price) ⟨by omega, by omega⟩
    have he : ¬ priceE m s.price ≠ 0 := by unfold priceE; rw [if_pos hm.1]; decide
    have hpv := (priceV_of he).1
    have hnv : W (0 - m.qty * s.price) = -(m.qty * s.price) := neg_W ⟨by omega, by omega⟩
    have hcv : (s.qty + -m.qty) * s.price - s.value = -(m.qty * s.price) := by omega
    rw [if_neg he, hpv, hnv, rsFin_nice hW (by omega) (by omega) (by rw [hsum]; omega) (by rw [hsum]; omega) ⟨v0, v1⟩, sEnd_nice hW (by simp only; omega) (by simp only; omega), hcv, ht]
    simp only
    rw [hsum]
    cases withinB (var (-(m.qty * s.price))) <;> simp [h.ly, Int.sub_eq_add_neg]
theorem rs_land {s : Sk} {m : Mv} (h : S3 s) : rsFin s m s.price 0 (fun _ => s.past) (fun _ => m.cost) = sEnd s s m ⟨0, 0, 0, m.cost⟩ := by
  have q0 := h.sg.q0; have q1 := h.sg.q1; have v0 := h.sg.v0; have v1 := h.sg.v1
  have hsp : 0 ≤ s.value := by rw [h.vq]; exact Int.mul_nonneg q0 h.p0
  have hW : W (s.qty + 0) = s.qty + 0 := W_in ⟨by omega, by omega⟩
  have hsum : (s.qty + 0) * s.price = s.value := by rw [Int.add_zero, ← h.vq]
  rw [rsFin_nice hW (by omega) (by omega) (by rw [hsum]; omega) (by rw [hsum]; omega) ⟨v0, v1⟩, sEnd_nice hW (by simp only; omega) (by simp only; omega), hsum]
  simp only [Int.add_zero, Int.sub_self]
  rw [show (⟨s.qty, s.value, s.price, [], s.past⟩ : Sk) = { s with qty := s.qty, value := s.value } by rw [← h.ly]]
theorem rs_repr {s : Sk} {m : Mv} (h : S3 s) (hc : 0 ≤ m.cost ∧ m.cost ≤ 1000000000000) : rsFin s m m.cost 0 (fun _ => s.past) (fun cv => W (0 - cv)) = match sRepr s m ⟨0, 0, 0, 0⟩ with | .error e => .error e | .ok (t, c) => sEnd s t m c := by
  have q0 := h.sg.q0; have q1 := h.sg.q1; have v0 := h.sg.v0; have v1 := h.sg.v1
  have p0 := h.p0; have p1 := h.p1
  have hsp : 0 ≤ s.value := by rw [h.vq]; exact Int.mul_nonneg q0 h.p0
  have hcp : 0 ≤ s.qty * m.cost := Int.mul_nonneg q0 hc.1
  have hW : W (s.qty + 0) = s.qty + 0 := W_in ⟨by omega, by omega⟩
  have hsub : subOk m.cost s.price = true ∧ subN m.cost s.price = m.cost - s.price := by
    unfold subOk subN; exact ⟨decide_eq_true ⟨by omega, by omega⟩, if_pos ⟨by omega, by omega⟩⟩
  have hd : s.qty * (m.cost - s.price) = s.qty * m.cost - s.value := by rw [Int.mul_sub, ← h.vq]
  have e0 : (s.qty + 0) * m.cost = s.qty * m.cost := by rw [Int.add_zero]
  unfold sRepr reprV
  rw [hsub.1, hsub.2]
  by_cases hbig : 1000000000000000 < s.qty * m.cost
  · rw [rsFin_big hW (by omega) (by rw [e0]; omega) (.inr (by rw [e0]; exact hbig))]
    by_cases hm : -9223372036854775808 ≤ s.qty * (m.cost - s.price) ∧ s.qty * (m.cost - s.price) ≤ 9223372036854775807
    · have hmm := mul_of hm
      rw [hmm.1, hmm.2]
      split
      · rename_i hx; split at hx <;> cases hx; rfl
      · rename_i t c hx
        split at hx
        · cases hx
        · cases hx
          exact (sEnd_big hW (.inr (by simp only; rw [hd]; omega))).symm
    · rw [mul_not hm]; rfl
  · have hm : -9223372036854775808 ≤ s.qty * (m.cost - s.price) ∧ s.qty * (m.cost - s.price) ≤ 9223372036854775807 := by rw [hd]; constructor <;> omega
    have hmm := mul_of hm
    rw [hmm.1, hmm.2, within_iff.2 (by rw [hd]; constructor <;> omega)]
    simp only [Bool.not_true, Bool.or_self, Bool.false_eq_true, if_false]
    rw [rsFin_nice hW (by omega) (by omega) (by rw [e0]; omega) (by rw [e0]; omega) ⟨v0, v1⟩, sEnd_nice hW (by simp only; omega) (by simp only; rw [hd]; omega), e0, hd]
    simp only [Int.add_zero]
    rw [show s.value + (s.qty * m.cost - s.value) = s.qty * m.cost by omega]
    rw [show (⟨s.qty, s.qty * m.cost, m.cost, [], s.past⟩ : Sk) = { s with price := m.cost, qty := s.qty, value := s.qty * m.cost } by rw [← h.ly]]
theorem neg_neg_W {x : Int} (h : i64 x) : W (0 - -x) = x := by rw [show 0 - -x = x by omega]; exact W_in h
theorem rs_eq {s : Sk} {m : Mv} (h : S3 s) : rsStep s m = sStep s m := by
  by_cases h1 : m.one = 0
  · by_cases h2 : (findI (isPast 0 m.seq) s.past).isSome = true
    · unfold rsStep sStep
      rw [if_neg (by simp [h1]), if_pos h2, if_neg (by simp [h1]), if_pos (by rw [known_eq h.sg.fine]; exact h2)]
    · have hg := MG.of h1
      rw [rs_do h1 h2, sStep_end h1 h2 h.sg.fine]
      rcases (show m.kind = 1 ∨ m.kind = 2 ∨ m.kind = 3 ∨ m.kind = 4 ∨ m.kind = 5 ∨ m.kind = 6 by have := hg.k; omega) with hk | hk | hk | hk | hk | hk
      · rw [rs_1 hk, sDo_1 hk, rs_up h hg (.inl hk) rfl rfl]; unfold sRecv
        by_cases he : priceE m s.price ≠ 0
        · simp only [if_pos he]
        · simp only [if_neg he]; rw [(priceV_of he).1]
      · rw [rs_2 hk, sDo_2 hk, rs_down h hg (.inl hk) rfl rfl]; unfold sIssue
        by_cases hlt : s.qty < m.qty
        · simp only [if_pos hlt]
        · simp only [if_neg hlt]
          by_cases he : priceE m s.price ≠ 0
          · simp only [if_pos he]
          · have hp := priceV_of he
            simp only [if_neg he]; rw [neg_neg_W (hp.1 ▸ hp.2), hp.1]
      · cases hr : refd (if m.kind = 3 then 2 else 1) m s.past with
        | error e =>
          rw [rs_e (.inl hk) hr, sDo_3 hk]; rw [if_pos hk] at hr; unfold sCust; rw [hr]
        | ok x =>
          obtain ⟨i, p⟩ := x
          rw [rs_3 hk hr, sDo_3 hk, rs_up h hg (.inr hk) rfl rfl]; rw [if_pos hk] at hr; unfold sCust; rw [hr]
          by_cases he : priceE m s.price ≠ 0
          · simp only [if_pos he]
          · simp only [if_neg he]; rw [(priceV_of he).1]
      · cases hr : refd (if m.kind = 3 then 2 else 1) m s.past with
        | error e =>
          rw [rs_e (.inr (.inl hk)) hr, sDo_4 hk]; rw [if_neg (by omega)] at hr; unfold sSupp; rw [hr]
        | ok x =>
          obtain ⟨i, p⟩ := x
          rw [rs_4 hk hr, sDo_4 hk, rs_down h hg (.inr hk) rfl rfl]; rw [if_neg (by omega)] at hr; unfold sSupp; rw [hr]
          by_cases hlt : s.qty < m.qty
          · simp only [if_pos hlt]
          · simp only [if_neg hlt]
            by_cases he : priceE m s.price ≠ 0
            · simp only [if_pos he]
            · have hp := priceV_of he
              simp only [if_neg he]; rw [neg_neg_W (hp.1 ▸ hp.2), hp.1]
      · cases hr : refd (if m.kind = 3 then 2 else 1) m s.past with
        | error e =>
          rw [rs_e (.inr (.inr hk)) hr, sDo_5 hk]; rw [if_neg (by omega)] at hr; unfold sLand; rw [hr]
        | ok x =>
          obtain ⟨i, p⟩ := x
          rw [rs_5 hk hr, sDo_5 hk, rs_land h]; rw [if_neg (by omega)] at hr; unfold sLand; rw [hr]
      · rw [rs_6 hk, sDo_6 (by omega), rs_repr h hg.c]
  · unfold rsStep sStep
    rw [if_pos h1, if_pos h1]
theorem rsFin_keep {s t : Sk} {m : Mv} {c : Co} {pr cq : Int} {ps : Int → List Pa} {var : Int → Int} (h : rsFin s m pr cq ps var = .ok (t, c)) (hp : 0 ≤ pr) : t.layers = [] ∧ t.value = t.qty * t.price := by
  unfold rsFin at h
  split at h
  · cases h
  rename_i h0
  split at h
  · cases h
  rename_i h1
  split at h
  · cases h
  cases h
  refine ⟨rfl, ?_⟩
  have hmp : 0 ≤ rsQ s cq * pr := Int.mul_nonneg (by omega) hp
  by_cases hb : rsQ s cq * pr ≤ 1000000000000000
  · exact (valN_of hmp).1 hb
  · exact absurd (.inr ((valN_of hmp).2 (by omega))) h1
theorem S3.step {s t : Sk} {m : Mv} {c : Co} (h : S3 s) (hst : sStep s m = .ok (t, c)) : S3 t := by
  have hf := sStep_f h.sg ⟨h.p0, h.p1⟩ hst
  have hg := hf.1.mg
  have hk : t.layers = [] ∧ t.value = t.qty * t.price := by
    rw [← rs_eq h] at hst
    unfold rsStep at hst
    split at hst
    · cases hst
    split at hst
    · cases hst
    unfold rsDo at hst
    split at hst
    · exact rsFin_keep hst h.p0
    split at hst
    · exact rsFin_keep hst h.p0
    split at hst
    · exact rsFin_keep hst hg.c.1
    split at hst
    · cases hst
    split at hst
    · exact rsFin_keep hst h.p0
    split at hst
    · exact rsFin_keep hst h.p0
    · exact rsFin_keep hst h.p0
  exact ⟨hf.2.1, hf.2.2.1, hf.2.2.2, hk.2, hk.1⟩
end Go.SL
