/- Laws of the walks and of the models, part 1 (merged by program). -/
import Derived.Test.YtncidoakeflboaaGreatDoorB0
import Derived.MapKept
import Derived.Laws.IdiomRangeMap
import Derived.Shelf.Spec.SlicesInsertGrow
import Derived.KernelRfl
set_option linter.unusedVariables false
set_option linter.unusedSimpArgs false
set_option maxRecDepth 20000
set_option maxHeartbeats 4000000
namespace Go.SL
open Go
class UI (P : Program) (t : TypeId) (d : outParam TypeDesc) : Prop where
  eq : P.underlying t = some d
theorem UI.some {P : Program} {t : TypeId} {d : TypeDesc} (u : UI P t d) : (P.underlying t).isSome = true := by rw [u.eq]; rfl
class SoI (P : Program) (t : TypeId) : Prop where
  eq : (P.underlying t).isSome = true
class PI (P : Program) (t : TypeId) : Prop where
  eq : P.underlying t = some (.pointer (P.pointee t))
structure Hold (G : Prop) : Prop where
  of : G
structure Sts (P : Program) (β : Base) (n : Nat) (arr : Array Oper) (k : Nat) (os : List Oper) (E : Env) (L : List HP) (K : Env → List HP → Prop) : Prop where
  of : RunL P β n arr os E L K
section
variable {P : Program} {β : Base} {n k : Nat} {arr : Array Oper} {os : List Oper} {E : Env} {L : List HP} {K : Value → List HP → Prop} {H : Env → List HP → Prop} {d : Option Tmp} {op : Op} {ty : TypeId} {pos : String} {af : Array Edge} {x y : Operand} {u v : Value} {t t' : TypeId} {g : Option (Nat × Bool)}
theorem OpJ.up {o : Oper} {K' : Value → List HP → Prop} (h : OpJ P β E L o K) (hk : ∀ v L, K v L → K' v L) : OpJ P β E L o K' := fun a w ha hs next Q hn => h a w ha hs next Q fun v L' w' hK hs' => hn v L' w' (hk v L' hK) hs'
theorem Sts.done (h : RunL P β n arr os E L H) : Sts P β n arr 0 os E L H := ⟨h⟩
theorem Sts.o1 (hd : dstOk n d = true) (h : OpJ P β E L ⟨d, op, ty, pos, af, none⟩ fun v L1 => Sts P β n arr k os (E.put d v) L1 H) : Sts P β n arr (k + 1) (⟨d, op, ty, pos, af, none⟩ :: os) E L H :=
  ⟨RunL.op hd rfl (h.up fun v L1 h => h.of)⟩
theorem Sts.yes {j : Nat} {b : Bool} {gd : Tmp} (hd : dstOk n d = true) (hj : (arr[j]?).bind (·.dst) = some gd) (hb : E.get gd = some u) (hu : u = .bool b)
    (h : OpJ P β E L ⟨d, op, ty, pos, af, some (j, b)⟩ fun v L1 => Sts P β n arr k os (E.put d v) L1 H) : Sts P β n arr (k + 1) (⟨d, op, ty, pos, af, some (j, b)⟩ :: os) E L H :=
  ⟨RunL.yes hd rfl hj (by rw [hb, hu]) (h.up fun v L1 h => h.of)⟩
theorem Sts.noT {j : Nat} {gd : Tmp} (hd : dstOk n d = true) (hj : (arr[j]?).bind (·.dst) = some gd) (hb : E.get gd = some u) (hu : u = .bool false)
    (h : Sts P β n arr k os (E.put d undef) L H) : Sts P β n arr (k + 1) (⟨d, op, ty, pos, af, some (j, true)⟩ :: os) E L H :=
  ⟨RunL.no hd rfl hj (by rw [hb, hu]; rfl) h.of⟩
theorem Sts.noF {j : Nat} {gd : Tmp} (hd : dstOk n d = true) (hj : (arr[j]?).bind (·.dst) = some gd) (hb : E.get gd = some u) (hu : u = .bool true)
    (h : Sts P β n arr k os (E.put d undef) L H) : Sts P β n arr (k + 1) (⟨d, op, ty, pos, af, some (j, false)⟩ :: os) E L H :=
  ⟨RunL.no hd rfl hj (by rw [hb, hu]; rfl) h.of⟩
theorem Sts.undef {j : Nat} {b : Bool} {gd : Tmp} (hd : dstOk n d = true) (hj : (arr[j]?).bind (·.dst) = some gd) (hb : E.get gd = some u) (hu : u = Go.undef)
    (h : Sts P β n arr k os (E.put d Go.undef) L H) : Sts P β n arr (k + 1) (⟨d, op, ty, pos, af, some (j, b)⟩ :: os) E L H :=
  ⟨RunL.undef hd rfl hj (by rw [hb, hu]) h.of⟩
theorem OpJ.pickXT {c : Operand} (hc : E.ev c = some u) (hu : u = .bool true) (hx : E.ev x = some v) (k : K v L) : OpJ P β E L ⟨d, .pick c x y, ty, pos, af, g⟩ K := OpJ.pickT (hu ▸ hc) hx k
theorem OpJ.pickXF {c : Operand} (hc : E.ev c = some u) (hu : u = .bool false) (hy : E.ev y = some v) (k : K v L) : OpJ P β E L ⟨d, .pick c x y, ty, pos, af, g⟩ K := OpJ.pickF (hu ▸ hc) hy k
theorem OpJ.notXT (hx : E.ev x = some u) (hu : u = .bool true) (h : K (.bool false) L) : OpJ P β E L ⟨d, .unOp .not t x, ty, pos, af, g⟩ K := OpJ.not (b := true) (hu ▸ hx) h
theorem OpJ.notXF (hx : E.ev x = some u) (hu : u = .bool false) (h : K (.bool true) L) : OpJ P β E L ⟨d, .unOp .not t x, ty, pos, af, g⟩ K := OpJ.not (b := false) (hu ▸ hx) h
theorem OpJ.buildX {zs cs : List Value} {places : List (Nat × Nat)} {xs : List (Nat × Operand)} {ps : List (Nat × Value)} (B : BI P t zs places) (hx : E.evp xs = some ps) (hb : bldL places zs ps = some cs) (h : K (.agg ⟨cs⟩) L) : OpJ P β E L ⟨d, .build t ⟨xs⟩, ty, pos, af, g⟩ K :=
  OpJ.build B hx (by rw [hb]; rfl) fun cs' h' => by cases hb.symm.trans h'; exact h
theorem OpJ.buildArrX {zs cs : List Value} {xs : List (Nat × Operand)} {ps : List (Nat × Value)} (B : BAI P t zs) (hx : E.evp xs = some ps) (hb : bldA zs ps = some cs) (h : K (.agg ⟨cs⟩) L) : OpJ P β E L ⟨d, .build t ⟨xs⟩, ty, pos, af, g⟩ K :=
  OpJ.buildArr B hx (by rw [hb]; rfl) fun cs' h' => by cases hb.symm.trans h'; exact h
theorem bx1 {α : Type} : Value.bool (!(none : Option α).isSome) = .bool true := rfl
theorem bx2 {α : Type} {a : α} : Value.bool (!(some a).isSome) = .bool false := rfl
theorem bx3 {α : Type} : Value.bool ((none : Option α).isSome) = .bool false := rfl
theorem bx4 {α : Type} {a : α} : Value.bool ((some a).isSome) = .bool true := rfl
theorem bx5 {α : Type} : Value.bool ((none : Option α).isNone) = .bool true := rfl
theorem bx6 {α : Type} {a : α} : Value.bool ((some a).isNone) = .bool false := rfl
theorem bx7 : Value.bool (!true) = .bool false := rfl
theorem bx8 : Value.bool (!false) = .bool true := rfl
theorem bx9 {α : Type} : Value.bool (!(none : Option α).isNone) = .bool false := rfl
theorem bx10 {α : Type} {a : α} : Value.bool (!(some a).isNone) = .bool true := rfl
theorem gd {α : Type} {u v : α} (h : u = v := by with_reducible first | exact rfl | exact bx1 | exact bx2 | exact bx3 | exact bx4 | exact bx5 | exact bx6 | exact bx7 | exact bx8 | exact bx9 | exact bx10) : u = v := h
section
variable {bo : BinOp} {uo : UnOp} {xs : Array (Nat × Operand)} {cc : Call} {z : Operand} {i : Nat}
theorem gLd (h : OpJ P β E L ⟨d, .load t x, ty, pos, af, g⟩ K) : OpJ P β E L ⟨d, .load t x, ty, pos, af, g⟩ K := h
theorem gSt (h : OpJ P β E L ⟨d, .store t x y, ty, pos, af, g⟩ K) : OpJ P β E L ⟨d, .store t x y, ty, pos, af, g⟩ K := h
theorem gAdd (h : OpJ P β E L ⟨d, .binOp .add t x y t', ty, pos, af, g⟩ K) : OpJ P β E L ⟨d, .binOp .add t x y t', ty, pos, af, g⟩ K := h
theorem gSub (h : OpJ P β E L ⟨d, .binOp .sub t x y t', ty, pos, af, g⟩ K) : OpJ P β E L ⟨d, .binOp .sub t x y t', ty, pos, af, g⟩ K := h
theorem gBin (h : OpJ P β E L ⟨d, .binOp bo t x y t', ty, pos, af, g⟩ K) : OpJ P β E L ⟨d, .binOp bo t x y t', ty, pos, af, g⟩ K := h
theorem gUn (h : OpJ P β E L ⟨d, .unOp uo t x, ty, pos, af, g⟩ K) : OpJ P β E L ⟨d, .unOp uo t x, ty, pos, af, g⟩ K := h
theorem gIA (h : OpJ P β E L ⟨d, .indexAddr t x y, ty, pos, af, g⟩ K) : OpJ P β E L ⟨d, .indexAddr t x y, ty, pos, af, g⟩ K := h
theorem gBld (h : OpJ P β E L ⟨d, .build t xs, ty, pos, af, g⟩ K) : OpJ P β E L ⟨d, .build t xs, ty, pos, af, g⟩ K := h
theorem gCall (h : OpJ P β E L ⟨d, .call cc, ty, pos, af, g⟩ K) : OpJ P β E L ⟨d, .call cc, ty, pos, af, g⟩ K := h
theorem gPick (h : OpJ P β E L ⟨d, .pick x y z, ty, pos, af, g⟩ K) : OpJ P β E L ⟨d, .pick x y z, ty, pos, af, g⟩ K := h
theorem gFld (h : OpJ P β E L ⟨d, .field t x i, ty, pos, af, g⟩ K) : OpJ P β E L ⟨d, .field t x i, ty, pos, af, g⟩ K := h
theorem gCv (h : OpJ P β E L ⟨d, .convert t t' x, ty, pos, af, g⟩ K) : OpJ P β E L ⟨d, .convert t t' x, ty, pos, af, g⟩ K := h
theorem gQuo (h : OpJ P β E L ⟨d, .binOp .quo t x y t', ty, pos, af, g⟩ K) : OpJ P β E L ⟨d, .binOp .quo t x y t', ty, pos, af, g⟩ K := h
theorem gRem (h : OpJ P β E L ⟨d, .binOp .rem t x y t', ty, pos, af, g⟩ K) : OpJ P β E L ⟨d, .binOp .rem t x y t', ty, pos, af, g⟩ K := h
theorem gShl (h : OpJ P β E L ⟨d, .binOp .shl t x y t', ty, pos, af, g⟩ K) : OpJ P β E L ⟨d, .binOp .shl t x y t', ty, pos, af, g⟩ K := h
theorem gShr (h : OpJ P β E L ⟨d, .binOp .shr t x y t', ty, pos, af, g⟩ K) : OpJ P β E L ⟨d, .binOp .shr t x y t', ty, pos, af, g⟩ K := h
end
end
end Go.SL
namespace Go.SL
open Go
section
variable {P : Program} {β : Base} {n : Nat} {arr : Array Oper} {os : List Oper} {E : Env} {L : List HP} {H : Env → List HP → Prop}
theorem sx (k : Nat) {G : (Env → List HP → Prop) → Prop} (h : G H) (s : ∀ H', Hold (G H') → Sts P β n arr k os E L H' := by intro H' hk; repeat (first | exact Sts.done hk.of | ((first | refine Sts.o1 rfl ?_ | refine Sts.yes rfl rfl rfl gd ?_); (first | refine OpJ.move rfl ?_ | refine OpJ.assign rfl ?_ | refine OpJ.fieldAddr inferInstance rfl ?_ | (refine gLd ?_; first | refine OpJ.loadF inferInstance rfl pk (by rfl) ?_ | refine OpJ.loadO inferInstance rfl pk (by assumption) (by rfl) (by exact fun _ => rfl) ?_ | refine OpJ.loadW inferInstance rfl pk (by rfl) ?_ | refine OpJ.loadP inferInstance rfl pk (by simp) ?_ | refine OpJ.loadE inferInstance rfl pk (by assumption) (by exact fun _ => rfl) rfl (by decide) ?_) | refine OpJ.extract rfl rfl ?_ | (refine gPick ?_; first | refine OpJ.pickXT rfl gd rfl ?_ | refine OpJ.pickXF rfl gd rfl ?_ | refine OpJ.pick rfl rfl rfl ?_) | (refine gSt ?_; first | refine OpJ.storeW inferInstance rfl rfl rfl rfl (by simp [Value.oneCell', Pa.c, Ly.c, Mv.c, Co.c]) up ?_ | refine OpJ.store1 inferInstance rfl rfl rfl up (by simp) ?_ | refine OpJ.store inferInstance rfl rfl rfl rfl (by simp [Value.cells, Value.oneCell', Pa.c, Ly.c, Mv.c, Co.c]) up (by simp) ?_) | (refine gAdd ?_; first | refine OpJ.addI rfl rfl (by omega) ?_ | refine OpJ.add rfl rfl ?_) | (refine gSub ?_; first | refine OpJ.subI rfl rfl (by omega) ?_ | refine OpJ.sub rfl rfl ?_) | (refine gQuo ?_; first | refine OpJ.quo rfl rfl (by omega) ?_) | (refine gRem ?_; first | refine OpJ.rem rfl rfl (by omega) ?_) | (refine gShl ?_; first | refine OpJ.shl rfl rfl (by omega) ?_) | (refine gShr ?_; first | refine OpJ.shr rfl rfl (by omega) ?_) | (refine gBin ?_; first | refine OpJ.eql rfl rfl ?_ | refine OpJ.neq rfl rfl ?_ | refine OpJ.lss rfl rfl ?_ | refine OpJ.gtr rfl rfl ?_ | refine OpJ.leq rfl rfl ?_ | refine OpJ.geq rfl rfl ?_ | refine OpJ.mul rfl rfl ?_ | refine OpJ.eqlS rfl rfl ?_ | refine OpJ.neqS rfl rfl ?_ | refine OpJ.lssS rfl rfl ?_ | refine OpJ.gtrS rfl rfl ?_ | refine OpJ.geqS rfl rfl ?_ | refine OpJ.eqlNil PI.eq rfl ?_ | refine OpJ.neqNil PI.eq rfl ?_ | refine OpJ.eqlNilSl inferInstance rfl ?_ | refine OpJ.eqlA inferInstance rfl rfl rfl ?_ | refine OpJ.neqA inferInstance rfl rfl rfl ?_ | refine OpJ.eqlB UI.eq rfl rfl ?_ | refine OpJ.neqB UI.eq rfl rfl ?_ | refine OpJ.band rfl rfl ?_ | refine OpJ.bor rfl rfl ?_) | refine OpJ.nilCheck rfl ?_ | (refine gCall ?_; first | refine OpJ.len inferInstance rfl ?_ | refine OpJ.lenS UI.eq rfl ?_ | refine OpJ.min rfl rfl ?_) | (refine gIA ?_; first | refine OpJ.indexAddr inferInstance rfl rfl (by omega) ?_ | refine OpJ.indexAddrArr inferInstance rfl rfl (by omega) ?_) | (refine gUn ?_; first | refine OpJ.notXT rfl gd ?_ | refine OpJ.notXF rfl gd ?_ | refine OpJ.not rfl ?_ | refine OpJ.neg rfl ?_) | (refine gCv ?_; first | refine OpJ.conv SoI.eq UI.eq rfl ?_) | (refine gFld ?_; first | refine OpJ.fieldA inferInstance inferInstance rfl ?_ | refine OpJ.field1 inferInstance inferInstance rfl (by rfl) ?_) | refine OpJ.makeFunc rfl rfl ?_ | (refine gBld ?_; first | refine OpJ.buildX inferInstance rfl (by simp only [Sk.c, Mv.c, Co.c, bldL, Value.cells, bs, Nat.reduceAdd, Nat.reduceLeDiff, Nat.reduceLT]; rfl) ?_ | refine OpJ.buildArrX inferInstance rfl (by simp only [bldA, Value.cells, bs, Nat.reduceAdd, Nat.reduceLeDiff, Nat.reduceLT]; rfl) ?_))) | refine Sts.noT rfl rfl rfl gd ?_ | refine Sts.noF rfl rfl rfl gd ?_ | refine Sts.undef rfl rfl rfl gd ?_)) : RunL P β n arr os E L H := (s H ⟨h⟩).of
end
end Go.SL

namespace Go.SL
open Go
def leapB (y : Int) : Bool := decide (y.tmod 4 = 0 ∧ ¬ y.tmod 100 = 0 ∨ y.tmod 400 = 0)
def lensL : List Int := [31, 28, 31, 30, 31, 30, 31, 31, 30, 31, 30, 31]
def lensC : List Value := lensL.map I
def lenM (leap : Bool) (m : Int) : Int := if m < 1 ∨ 12 < m then 0 else if m = 2 ∧ leap = true then 29 else lensL.getD (m - 1).toNat 0
def beforeF (y : Int) : Int := 365 * (y - 1900) + ((y - 1) / 4 - (y - 1) / 100 + (y - 1) / 400 - 460)
def restM (leap : Bool) (m : Int) : Int := [365, 334, 306, 275, 245, 214, 184, 153, 122, 92, 61, 31].getD (m - 1).toNat 0 + (if m ≤ 2 ∧ leap = true then 1 else 0)
theorem lens_get {m : Int} (h1 : 1 ≤ m) (h2 : m ≤ 12) : lensC[(m - 1).toNat]? = some (I (lensL.getD (m - 1).toNat 0)) := by
  obtain ⟨k, rfl⟩ : ∃ k : Nat, m = (k : Int) + 1 := ⟨(m - 1).toNat, by omega⟩
  have hk : k < 12 := by omega
  rw [show ((k : Int) + 1 - 1).toNat = k by omega]
  match k, hk with
  | 0, _ | 1, _ | 2, _ | 3, _ | 4, _ | 5, _ | 6, _ | 7, _ | 8, _ | 9, _ | 10, _ | 11, _ => rfl
theorem rest_step {leap : Bool} {m : Int} (h1 : 1 ≤ m) (h2 : m < 12) : restM leap m = lenM leap m + restM leap (m + 1) := by
  obtain ⟨k, rfl⟩ : ∃ k : Nat, m = (k : Int) + 1 := ⟨(m - 1).toNat, by omega⟩
  have hk : k < 11 := by omega
  cases leap <;> match k, hk with
  | 0, _ | 1, _ | 2, _ | 3, _ | 4, _ | 5, _ | 6, _ | 7, _ | 8, _ | 9, _ | 10, _ => rfl
theorem rest_last {leap : Bool} : restM leap 12 = lenM leap 12 := by cases leap <;> rfl
theorem rest_first {leap : Bool} : restM leap 1 = 365 + (if leap = true then 1 else 0) := by cases leap <;> rfl
theorem lenM_range {leap : Bool} {m : Int} : 0 ≤ lenM leap m ∧ lenM leap m ≤ 31 := by
  unfold lenM
  split
  · omega
  · split
    · omega
    · obtain ⟨k, rfl⟩ : ∃ k : Nat, m = (k : Int) + 1 := ⟨(m - 1).toNat, by omega⟩
      have hk : k < 12 := by omega
      rw [show ((k : Int) + 1 - 1).toNat = k by omega]
      match k, hk with
      | 0, _ | 1, _ | 2, _ | 3, _ | 4, _ | 5, _ | 6, _ | 7, _ | 8, _ | 9, _ | 10, _ | 11, _ => decide
theorem before_step {y : Int} (h1 : 1900 ≤ y) (h2 : y ≤ 2199) : beforeF (y + 1) = beforeF y + 365 + (if leapB y = true then 1 else 0) := by
  unfold beforeF leapB
  simp only [decide_eq_true_eq]
  rw [Int.tmod_eq_emod_of_nonneg (by omega), Int.tmod_eq_emod_of_nonneg (by omega), Int.tmod_eq_emod_of_nonneg (by omega)]
  split <;> omega
theorem before_last : beforeF 2200 = 109573 := by decide
theorem before_first {n : Int} (h0 : 0 ≤ n) (h1 : n ≤ 109572) : 1900 ≤ 1900 + n / 366 ∧ 1900 + n / 366 ≤ 2199 ∧ beforeF (1900 + n / 366) ≤ n := by
  refine ⟨by omega, by omega, ?_⟩
  unfold beforeF; omega
theorem before_wrap {y : Int} (h1 : 1900 ≤ y) (h2 : y ≤ 2200) : -1000000 ≤ beforeF y ∧ beforeF y ≤ 1000000 := by unfold beforeF; omega
theorem year_found {n y : Int} (h1 : 1900 ≤ y) (h2 : y ≤ 2199) (h3 : beforeF y ≤ n) (hn : n ≤ 109572) (h : ¬ (y < 2199 ∧ beforeF (y + 1) ≤ n)) : 0 ≤ n - beforeF y ∧ n - beforeF y < restM (leapB y) 1 := by
  have hs := before_step h1 h2
  rw [rest_first]
  refine ⟨by omega, ?_⟩
  by_cases e : y = 2199
  · subst e
    have := before_last
    rw [show (2199 : Int) + 1 = 2200 from rfl] at hs
    omega
  · have : n < beforeF (y + 1) := by omega
    omega
theorem before_code {y : Int} (h1 : 1900 ≤ y) (h2 : y ≤ 2200) :
    IntKind.i64.wrap (IntKind.i64.wrap (365 * IntKind.i64.wrap (y - 1900)) + IntKind.i64.wrap (IntKind.i64.wrap (IntKind.i64.wrap (IntKind.i64.wrap (IntKind.i64.wrap ((IntKind.i64.wrap ((IntKind.i64.wrap (y - 1)).tdiv 4)) - (IntKind.i64.wrap ((IntKind.i64.wrap (y - 1)).tdiv 100))) + (IntKind.i64.wrap ((IntKind.i64.wrap (y - 1)).tdiv 400))) - 474) + 18) - 4)) = beforeF y := by
  have e1 : IntKind.i64.wrap (y - 1) = y - 1 := wrap_i64_in ⟨by omega, by omega⟩
  rw [e1, Int.tdiv_eq_ediv_of_nonneg (by omega), Int.tdiv_eq_ediv_of_nonneg (by omega), Int.tdiv_eq_ediv_of_nonneg (by omega)]
  simp only [IntKind.wrap_i64]
  unfold beforeF
  omega
theorem inB_iff {n lo hi : Int} : inB n lo hi = true ↔ lo ≤ n ∧ n ≤ hi := by unfold inB; simp
theorem rest_next {leap : Bool} {m n : Int} (h1 : 1 ≤ m) (h2 : m ≤ 12) (hn : n < restM leap m) (hl : lenM leap m ≤ n) : m < 12 ∧ 0 ≤ n - lenM leap m ∧ n - lenM leap m < restM leap (m + 1) := by
  by_cases e : m = 12
  · subst e; have := rest_last (leap := leap); omega
  · have := rest_step (leap := leap) h1 (by omega); omega
theorem rest_le {leap : Bool} {m : Int} : restM leap m ≤ 366 := by
  unfold restM
  have : ∀ k : Nat, ([365, 334, 306, 275, 245, 214, 184, 153, 122, 92, 61, 31] : List Int).getD k 0 ≤ 365 := by
    intro k
    match k with
    | 0 | 1 | 2 | 3 | 4 | 5 | 6 | 7 | 8 | 9 | 10 | 11 => decide
    | k + 12 => simp
  have := this (m - 1).toNat
  split <;> omega
attribute [irreducible] lenM beforeF restM leapB
end Go.SL

namespace Go.SL
open Go
def byteOk (c : UInt8) : Bool := letterB (c.toNat : Int) || digitB (c.toNat : Int)
def everyB (s : ByteArray) : Bool := s.data.toList.all byteOk
def codeB (s : ByteArray) : Bool := decide (s ≠ ⟨#[]⟩) && decide ((s.size : Int) ≤ 12) && everyB s
def Mv.lotOk (m : Mv) : Bool := decide (m.lot = ⟨#[]⟩) || (codeB m.lot && decide (m.kind = 1 ∨ m.kind = 2))
def Mv.refBad (m : Mv) : Bool := (refersB m.kind && decide (m.ref < 1)) || (!refersB m.kind && decide (m.ref ≠ 0))
def Mv.one (m : Mv) : Int :=
  if (!inB m.value 0 109572) = true then 11 else if (!codeB m.item) = true then 7 else if (!inB m.kind 1 6) = true then 10
  else if (!m.quantityOk || !m.costOk) = true then 3 else if (!m.lotOk) = true then 22 else if m.refBad = true then 28 else 0
theorem byte_get {s : ByteArray} {i : Nat} : s[i]? = s.data.toList[i]? := by
  rw [Array.getElem?_toList]
  by_cases h : i < s.size
  · rw [getElem?_pos s i h, getElem?_pos s.data i h]; rfl
  · rw [getElem?_neg s i h, getElem?_neg s.data i h]
theorem byte_ex {s : ByteArray} {i : Nat} (h : (i : Int) < (s.size : Int)) : ∃ u, s[i]? = some u := ⟨_, getElem?_pos s i (by omega)⟩
attribute [irreducible] everyB codeB Mv.lotOk Mv.refBad Mv.one
end Go.SL

namespace Go.SL
open Go
structure DInv (rin word c : Int) (k : Nat) (q r : Int) : Prop where
  k64 : k ≤ 64
  r0 : 0 ≤ r
  rc : r < c
  q0 : 0 ≤ q
  qb : q < 2 ^ (64 - k)
  eq : rin * 2 ^ (64 - k) + word / 2 ^ k = q * c + r
theorem le_mul_one {a b : Int} (ha : 0 ≤ a) (hb : 1 ≤ b) : a ≤ a * b := by
  have := Int.mul_le_mul_of_nonneg_left hb ha
  rwa [Int.mul_one] at this
theorem pow_pos (k : Nat) : (0 : Int) < 2 ^ k := Int.pow_pos (by decide)
theorem DInv.start {rin word c : Int} (hr : 0 ≤ rin) (hc : rin < c) (hw : u64 word) : DInv rin word c 64 0 rin := by
  refine ⟨Nat.le_refl _, hr, hc, by omega, by simp, ?_⟩
  have : word / 2 ^ 64 = 0 := Int.ediv_eq_zero_of_lt hw.1 (by rw [show (2 : Int) ^ 64 = 18446744073709551616 from by decide]; exact hw.2)
  rw [this]; simp
theorem half_word (word : Int) (k : Nat) : word / 2 ^ k = 2 * (word / 2 ^ (k + 1)) + (word / 2 ^ k) % 2 := by
  have : word / 2 ^ (k + 1) = word / 2 ^ k / 2 := by
    rw [Int.pow_succ, Int.ediv_ediv_of_nonneg (Int.le_of_lt (pow_pos k))]
  rw [this]; omega
theorem pow_half {k : Nat} (h : k + 1 ≤ 64) : (2 : Int) ^ (64 - k) = 2 * 2 ^ (64 - (k + 1)) := by
  rw [show 64 - k = (64 - (k + 1)) + 1 by omega, Int.pow_succ]; omega
theorem DInv.step {rin word c q r : Int} {k : Nat} (h : DInv rin word c (k + 1) q r) (hk : k + 1 ≤ 64) :
    (c ≤ 2 * r + (word / 2 ^ k) % 2 → DInv rin word c k (2 * q + 1) (2 * r + (word / 2 ^ k) % 2 - c)) ∧
    (2 * r + (word / 2 ^ k) % 2 < c → DInv rin word c k (2 * q) (2 * r + (word / 2 ^ k) % 2)) := by
  have hp := pow_half hk
  have he := h.eq
  have hw := half_word word k
  have hq := h.qb
  have h0 := h.q0
  have hr0 := h.r0
  have hrc := h.rc
  have hb : 0 ≤ (word / 2 ^ k) % 2 ∧ (word / 2 ^ k) % 2 ≤ 1 := by omega
  generalize (word / 2 ^ k) % 2 = b at *
  generalize hpp : (2 : Int) ^ (64 - (k + 1)) = p at *
  have key : rin * 2 ^ (64 - k) + word / 2 ^ k = 2 * (q * c) + (2 * r + b) := by
    rw [hp, hw]
    have : rin * (2 * p) = 2 * (rin * p) := by rw [Int.mul_left_comm]
    rw [this]; omega
  constructor
  · intro hge
    refine ⟨by omega, by omega, by omega, by omega, by rw [hp]; omega, ?_⟩
    rw [key, Int.add_mul, Int.mul_assoc]; omega
  · intro hlt
    refine ⟨by omega, ?_, by omega, by omega, by rw [hp]; omega, ?_⟩
    · omega
    · rw [key, Int.mul_assoc]
theorem DInv.last {rin word c q : Int} {k : Nat} (h : DInv rin word c k q 0) (hz : word % 2 ^ k = 0) : DInv rin word c 0 (q * 2 ^ k) 0 := by
  have hk := h.k64
  have hpos := pow_pos k
  have he := h.eq
  have hw : word = word / 2 ^ k * 2 ^ k := by
    have := Int.mul_ediv_add_emod word (2 ^ k)
    rw [hz, Int.add_zero, Int.mul_comm] at this
    exact this.symm
  have hpw : (2 : Int) ^ 64 = 2 ^ (64 - k) * 2 ^ k := by rw [← Int.pow_add]; congr 1; omega
  refine ⟨by omega, by omega, h.rc, Int.mul_nonneg h.q0 (Int.le_of_lt hpos), ?_, ?_⟩
  · rw [Nat.sub_zero, hpw]; exact Int.mul_lt_mul_of_pos_right h.qb hpos
  · rw [Nat.sub_zero, hpw, Int.pow_zero, Int.ediv_one]
    have e1 : rin * (2 ^ (64 - k) * 2 ^ k) = rin * 2 ^ (64 - k) * 2 ^ k := by rw [Int.mul_assoc]
    rw [e1]
    have e2 : rin * 2 ^ (64 - k) * 2 ^ k + word = (rin * 2 ^ (64 - k) + word / 2 ^ k) * 2 ^ k := by rw [Int.add_mul, ← hw]
    rw [e2, he, Int.add_zero, Int.add_zero, Int.mul_right_comm]
theorem DInv.done {rin word c q r : Int} (h : DInv rin word c 0 q r) : q = (rin * 18446744073709551616 + word) / c ∧ r = (rin * 18446744073709551616 + word) % c := by
  have he := h.eq
  rw [Nat.sub_zero, Int.pow_zero, Int.ediv_one, show (2 : Int) ^ 64 = 18446744073709551616 from by decide] at he
  have hc : 0 < c := by have := h.r0; have := h.rc; omega
  have := (Int.ediv_emod_unique (a := rin * 18446744073709551616 + word) (b := c) (q := q) (r := r) hc).2 ⟨by rw [he, Int.mul_comm c q]; omega, h.r0, h.rc⟩
  exact ⟨this.1.symm, this.2.symm⟩
theorem DInv.q64 {rin word c q r : Int} {k : Nat} (h : DInv rin word c k q r) : u64 q := by
  refine ⟨h.q0, ?_⟩
  have h1 := h.qb
  have h2 : (2 : Int) ^ (64 - k) ≤ 2 ^ 64 := by
    have e : (2 : Int) ^ 64 = 2 ^ (64 - k) * 2 ^ (64 - (64 - k)) := by rw [← Int.pow_add]; congr 1; have := h.k64; omega
    rw [e]
    have := pow_pos (64 - (64 - k))
    have := pow_pos (64 - k)
    exact le_mul_one (by omega) (by omega)
  have h3 : (2 : Int) ^ 64 = 18446744073709551616 := by decide
  omega
theorem DInv.half {rin word c q r : Int} {k : Nat} (h : DInv rin word c (k + 1) q r) : 2 * q + 1 < 18446744073709551616 := by
  have h1 := h.qb
  have hk := h.k64
  have h2 : 2 * (2 : Int) ^ (64 - (k + 1)) ≤ 2 ^ 64 := by
    rw [← pow_half hk]
    have e : (2 : Int) ^ 64 = 2 ^ (64 - k) * 2 ^ (64 - (64 - k)) := by rw [← Int.pow_add]; congr 1; omega
    rw [e]
    have := pow_pos (64 - (64 - k))
    have := pow_pos (64 - k)
    exact le_mul_one (by omega) (by omega)
  have h3 : (2 : Int) ^ 64 = 18446744073709551616 := by decide
  omega

theorem shl_zero {word : Int} {k : Nat} (hw : u64 word) (hk : k ≤ 64) : word * 2 ^ (64 - k) % 18446744073709551616 = 0 ↔ word % 2 ^ k = 0 := by
  have e : (18446744073709551616 : Int) = 2 ^ k * 2 ^ (64 - k) := by
    rw [← Int.pow_add, show k + (64 - k) = 64 by omega]; decide
  rw [e, Int.mul_comm word, Int.mul_comm (2 ^ k), Int.mul_emod_mul_of_pos _ _ (pow_pos _)]
  constructor
  · intro h
    rcases Int.mul_eq_zero.1 h with h | h
    · have := pow_pos (64 - k); omega
    · exact h
  · intro h; rw [h]; simp
theorem or_bit {x b : Int} (hx : 0 ≤ x) (hb : 0 ≤ b ∧ b ≤ 1) : (((x * 2).toNat ||| b.toNat : Nat) : Int) = x * 2 + b := by
  have := or_add (x := x) (y := b) (k := 1) hx hb.1 (by omega)
  simpa using this

section
variable {P : Program} {β : Base} {E : Env} {L : List HP} {K : Value → List HP → Prop} {d : Option Tmp} {ty : TypeId} {pos : String} {af : Array Edge} {g : Option (Nat × Bool)} {x y : Operand} {t t' : TypeId} {m n : Int} {k' : IntKind}
theorem OpJ.shrV {k : Nat} (hx : E.ev x = some (U m)) (hy : E.ev y = some (.int k' n)) (hn : n = (k : Int)) (hk : k ≤ 64) (h : K (U (m / 2 ^ k)) L) : OpJ P β E L ⟨d, .binOp .shr t x y t', ty, pos, af, g⟩ K := by
  subst hn; exact OpJ.shrU hx hy hk h
theorem OpJ.shlV {k : Nat} (hx : E.ev x = some (U m)) (hy : E.ev y = some (.int k' n)) (hn : n = (k : Int)) (hk : k ≤ 64) (h : K (U (m * 2 ^ k % 18446744073709551616)) L) : OpJ P β E L ⟨d, .binOp .shl t x y t', ty, pos, af, g⟩ K := by
  subst hn; exact OpJ.shl hx hy (by omega) (by rw [shl_u64 m k hk]; exact h)
theorem OpJ.shl1 (hx : E.ev x = some (U m)) (hy : E.ev y = some (.int k' 1)) (h : K (U (m * 2 % 18446744073709551616)) L) : OpJ P β E L ⟨d, .binOp .shl t x y t', ty, pos, af, g⟩ K :=
  OpJ.shlV (k := 1) hx hy rfl (by omega) (by simpa using h)
theorem OpJ.orBit {a : Int} (hx : E.ev x = some (U m)) (hy : E.ev y = some (U n)) (hm : m = a * 2) (ha : 0 ≤ a ∧ a < 9223372036854775808) (hn : 0 ≤ n ∧ n ≤ 1) (h : K (U (a * 2 + n)) L) : OpJ P β E L ⟨d, .binOp .or t x y t', ty, pos, af, g⟩ K :=
  OpJ.bor hx hy (by
    subst hm
    rw [or_u64 _ _ (by constructor <;> omega) (by constructor <;> omega), or_bit ha.1 hn]; exact h)
end

theorem getset {l : List Value} {i : Nat} {v : Value} (h : i < l.length) : (l.set i v)[0 + ((i : Nat) : Int).toNat]? = some v := by simp [h]
theorem div_u64 {w : Int} (h : u64 w) (k : Nat) : u64 (w / 2 ^ k) := by
  refine ⟨Int.ediv_nonneg h.1 (Int.le_of_lt (pow_pos k)), ?_⟩
  have := Int.ediv_le_self (b := 2 ^ k) h.1
  omega
def OI (hi lo c : Int) (i : Nat) (q0 q1 r : Int) : Prop :=
  (i = 0 → q0 = 0 ∧ q1 = 0 ∧ r = 0) ∧ (i = 1 → q0 = hi / c ∧ q1 = 0 ∧ r = hi % c) ∧ (i = 2 → q0 = hi / c ∧ q1 = (hi % c * 18446744073709551616 + lo) / c ∧ r = (hi % c * 18446744073709551616 + lo) % c)
theorem OI.zero {hi lo c : Int} : OI hi lo c 0 0 0 0 := ⟨fun _ => ⟨rfl, rfl, rfl⟩, fun h => by omega, fun h => by omega⟩
theorem OI.next {hi lo c : Int} {i : Nat} {q0 q1 r : Int} (hhi : u64 hi) (hlo : u64 lo) (hc : 0 < c) (h : OI hi lo c i q0 q1 r) (hi2 : i < 2) :
    ∃ w, u64 w ∧ [U hi, U lo][i]? = some (U w) ∧ [U q0, U q1] = [U q0, U q1].set i (U 0) ∧ 0 ≤ r ∧ r < c ∧
      (∀ q r', DInv r w c 0 q r' → ∃ q0' q1', [U q0, U q1].set i (U q) = [U q0', U q1'] ∧ OI hi lo c (i + 1) q0' q1' r') := by
  match i, hi2 with
  | 0, _ =>
    obtain ⟨rfl, rfl, rfl⟩ := h.1 rfl
    refine ⟨hi, hhi, rfl, rfl, by omega, hc, fun q r' hd => ⟨q, 0, rfl, fun h => by omega, fun _ => ?_, fun h => by omega⟩⟩
    have := hd.done
    rw [Int.zero_mul, Int.zero_add] at this
    exact ⟨this.1, rfl, this.2⟩
  | 1, _ =>
    obtain ⟨rfl, rfl, rfl⟩ := h.2.1 rfl
    exact ⟨lo, hlo, rfl, rfl, Int.emod_nonneg _ (by omega), Int.emod_lt_of_pos _ hc, fun q r' hd => ⟨hi / c, q, rfl, fun h => by omega, fun h => by omega, fun _ => ⟨rfl, hd.done.1, hd.done.2⟩⟩⟩
theorem OI.ret {hi lo c q0 q1 r : Int} (hlo : u64 lo) (hc : 0 < c) (h : OI hi lo c 2 q0 q1 r) : tup [.agg ⟨[U q0, U q1]⟩, U r] = .tuple ⟨[.agg ⟨[U ((hi * 18446744073709551616 + lo) / c / 18446744073709551616), U ((hi * 18446744073709551616 + lo) / c % 18446744073709551616)]⟩, U ((hi * 18446744073709551616 + lo) % c)]⟩ := by
  obtain ⟨rfl, h1, h2⟩ := h.2.2 rfl
  have hm := Int.emod_nonneg hi (show c ≠ 0 by omega)
  have hl := Int.emod_lt_of_pos hi hc
  have he := Int.mul_ediv_add_emod hi c
  generalize hx : hi / c = x at *
  generalize hy : hi % c = y at *
  have hs0 : 0 ≤ y * 18446744073709551616 + lo := by omega
  have hq0 : 0 ≤ q1 := by rw [h1]; exact Int.ediv_nonneg hs0 (by omega)
  have hq1 : q1 < 18446744073709551616 := by
    rw [h1]; refine Int.ediv_lt_of_lt_mul hc ?_
    have : (y + 1) * 18446744073709551616 ≤ c * 18446744073709551616 := Int.mul_le_mul_of_nonneg_right (by omega) (by decide)
    omega
  have hr0 : 0 ≤ r := by rw [h2]; exact Int.emod_nonneg _ (by omega)
  have hr1 : r < c := by rw [h2]; exact Int.emod_lt_of_pos _ hc
  have hd := Int.mul_ediv_add_emod (y * 18446744073709551616 + lo) c
  rw [← h1, ← h2] at hd
  have hu := (Int.ediv_emod_unique (a := hi * 18446744073709551616 + lo) (b := c) (q := x * 18446744073709551616 + q1) (r := r) hc).2 ⟨by
    rw [← he, Int.mul_add, Int.add_mul]
    rw [← Int.mul_assoc]
    omega, hr0, hr1⟩
  rw [hu.1, hu.2]
  rw [show (x * 18446744073709551616 + q1) / 18446744073709551616 = x by omega, show (x * 18446744073709551616 + q1) % 18446744073709551616 = q1 by omega]
  rfl
end Go.SL

namespace Go.SL
open Go
def negB (a b c : Int) : Bool := decide (a * b ≠ 0) && ((decide (a < 0) != decide (b < 0)) != decide (c < 0))
def mdSize (a b c mode : Int) : Int := mag a * mag b / mag c + (if awayB mode (negB a b c) (decide (mag a * mag b / mag c % 2 = 1)) (mag a * mag b % mag c) (mag c) = true then 1 else 0)
def mdN (a b c mode : Int) : Int := if mode < 1 ∨ 5 < mode ∨ c = 0 then 0 else signedN (negB a b c) (mdSize a b c mode)
def mdE (a b c mode : Int) : Int := if mode < 1 ∨ 5 < mode then 10 else if c = 0 then 2 else signedE (negB a b c) (mdSize a b c mode)
theorem mag_le {n : Int} (h : i64 n) : 0 ≤ mag n ∧ mag n ≤ 9223372036854775808 := by unfold mag; split <;> constructor <;> omega
theorem mag_pos {n : Int} (h : n ≠ 0) : 0 < mag n := by unfold mag; split <;> omega
theorem mag_zero {n : Int} : mag n = 0 ↔ n = 0 := by unfold mag; split <;> omega
theorem prod_le {a b : Int} (ha : i64 a) (hb : i64 b) : 0 ≤ mag a * mag b ∧ mag a * mag b ≤ 85070591730234615865843651857942052864 := by
  have h1 := mag_le ha; have h2 := mag_le hb
  refine ⟨Int.mul_nonneg h1.1 h2.1, ?_⟩
  have : mag a * mag b ≤ 9223372036854775808 * 9223372036854775808 := Int.mul_le_mul h1.2 h2.2 h2.1 (by decide)
  omega
theorem prod_zero {a b : Int} : mag a * mag b = 0 ↔ a * b = 0 := by
  rw [Int.mul_eq_zero, Int.mul_eq_zero, mag_zero, mag_zero]
theorem quo_le {m c : Int} (hm : 0 ≤ m) (hc : 0 < c) : 0 ≤ m / c ∧ m / c ≤ m := ⟨Int.ediv_nonneg hm (by omega), Int.ediv_le_self _ hm⟩
theorem rem_lt {m c : Int} (hc : 0 < c) : 0 ≤ m % c ∧ m % c < c := ⟨Int.emod_nonneg _ (by omega), Int.emod_lt_of_pos _ hc⟩
theorem signed_big {neg : Bool} {s : Int} (h : 18446744073709551616 ≤ s) : signedN neg s = 0 ∧ signedE neg s = 4 := by
  cases neg
  · simp [signedN, signedE]; omega
  · simp [signedN, signedE]; omega
theorem md_kind {a b c mode : Int} (h : mode < 1 ∨ 5 < mode) : tup [I 0, I 10] = .tuple ⟨[I (mdN a b c mode), I (mdE a b c mode)]⟩ := by
  rw [mdN, mdE, if_pos (by omega), if_pos h]; rfl
theorem md_zero {a b c mode : Int} (h : ¬ (mode < 1 ∨ 5 < mode)) (hc : c = 0) : tup [I 0, I 2] = .tuple ⟨[I (mdN a b c mode), I (mdE a b c mode)]⟩ := by
  rw [mdN, mdE, if_pos (by omega), if_neg h, if_pos hc]; rfl
theorem md_main {a b c mode : Int} (h : ¬ (mode < 1 ∨ 5 < mode)) (hc : c ≠ 0) {n e s : Int} (hn : n = signedN (negB a b c) s) (he : e = signedE (negB a b c) s) (hs : s = mdSize a b c mode) : tup [I n, I e] = .tuple ⟨[I (mdN a b c mode), I (mdE a b c mode)]⟩ := by
  subst hs hn he
  rw [mdN, mdE, if_neg (by omega), if_neg h, if_neg hc]; rfl
theorem md_over {a b c mode : Int} (h : ¬ (mode < 1 ∨ 5 < mode)) (hc : c ≠ 0) (hs : 18446744073709551616 ≤ mdSize a b c mode) : tup [I 0, I 4] = .tuple ⟨[I (mdN a b c mode), I (mdE a b c mode)]⟩ := by
  have := signed_big (neg := negB a b c) hs
  exact md_main h hc this.1.symm this.2.symm rfl
theorem md_size_ge {a b c mode : Int} : mag a * mag b / mag c ≤ mdSize a b c mode := by unfold mdSize; split <;> omega
theorem negB_no {a b c : Int} (pl : 0 ≤ mag a * mag b) (g : (!(decide (mag a * mag b / 18446744073709551616 = 0) && (decide (mag a * mag b % 18446744073709551616 = 0) && true))) = false) : false = negB a b c := by
  have g4 : mag a * mag b / 18446744073709551616 = 0 ∧ mag a * mag b % 18446744073709551616 = 0 := by simpa using g
  have hz : a * b = 0 := prod_zero.1 (by omega)
  simp [negB, hz]
theorem negB_yes {a b c : Int} (pl : 0 ≤ mag a * mag b)  (g : (!(decide (mag a * mag b / 18446744073709551616 = 0) && (decide (mag a * mag b % 18446744073709551616 = 0) && true))) = true) : (!decide ((!decide (decide (a < 0) = decide (b < 0))) = decide (c < 0))) = negB a b c := by
  have g4 : ¬ (mag a * mag b / 18446744073709551616 = 0 ∧ mag a * mag b % 18446744073709551616 = 0) := by intro h; simp [h] at g
  have hz : ¬ a * b = 0 := fun e => (by have := prod_zero.2 e; omega)
  by_cases a < 0 <;> by_cases b < 0 <;> by_cases c < 0 <;> simp [negB, *]
attribute [irreducible] mdN mdE negB
end Go.SL

namespace Go.SL
open Go
abbrev W (n : Int) : Int := IntKind.i64.wrap n
def Ly.ok (l : Ly) : Prop := i64 l.qty ∧ i64 l.value
def Pa.ok (p : Pa) : Prop := i64 p.qty ∧ i64 p.value ∧ i64 p.used ∧ i64 p.usedValue
def Mv.ok (m : Mv) : Prop := i64 m.qty ∧ i64 m.cost
structure Sk.ok (N : Nat) (t : Sk) : Prop where
  nl : t.layers.length ≤ N
  np : t.past.length ≤ N
  ly : ∀ (i : Nat) (l : Ly), t.layers[i]? = some l → l.ok
  pa : ∀ (i : Nat) (p : Pa), t.past[i]? = some p → p.ok
  q : i64 t.qty
  v : i64 t.value
  pr : i64 t.price

theorem Ly.one (x : Ly) : ∀ v ∈ x.c, Value.oneCell' v = true := by simp [Ly.c, Value.oneCell']
theorem Pa.one (x : Pa) : ∀ v ∈ x.c, Value.oneCell' v = true := by simp [Pa.c, Value.oneCell']
def findI {α : Type} (f : α → Bool) (xs : List α) : Option (Nat × α) := match xs.findIdx? f with | some i => (xs[i]?).map fun x => (i, x) | none => none
theorem findI_some {α : Type} {p : α → Bool} {xs : List α} {i : Nat} {x : α} (h : findI p xs = some (i, x)) : xs[i]? = some x ∧ p x = true := by
  unfold findI at h
  split at h
  · rename_i j hj
    rw [List.findIdx?_eq_some_iff_getElem] at hj
    obtain ⟨hlt, hp, _⟩ := hj
    rw [List.getElem?_eq_getElem hlt] at h
    simp only [Option.map_some, Option.some.injEq, Prod.mk.injEq] at h
    obtain ⟨rfl, rfl⟩ := h
    exact ⟨List.getElem?_eq_getElem hlt, hp⟩
  · cases h
def idxOf {α : Type} (r : Option (Nat × α)) : Int := match r with | some (i, _) => (i : Int) | none => -1
def partN (v q n : Int) : Int := if q = n then v else mdN v q n 4
theorem mdN_i64 (a b c mode : Int) (ha : i64 a) (hb : i64 b) : i64 (mdN a b c mode) := by
  unfold mdN
  split
  · decide
  · have h0 : 0 ≤ mdSize a b c mode := by
      have := prod_le ha hb
      have hq : 0 ≤ mag a * mag b / mag c := Int.ediv_nonneg this.1 (by unfold mag; split <;> omega)
      unfold mdSize; split <;> omega
    unfold signedN
    split <;> split <;> constructor <;> omega
theorem partN_i64 {v q n : Int} (hv : i64 v) (hq : i64 q) : i64 (partN v q n) := by
  unfold partN; split
  · exact hv
  · exact mdN_i64 _ _ _ _ hv hq

def isPast (kind seq : Int) (p : Pa) : Bool := decide (p.seq = seq) && (decide (kind = 0) || decide (p.kind = kind))
def isLy (seq : Int) (l : Ly) : Bool := decide (l.seq = seq)
def refd (kind : Int) (m : Mv) (ps : List Pa) : Except Int (Nat × Pa) :=
  match findI (isPast kind m.ref) ps with
  | none => .error 28
  | some (i, p) => if W (p.qty - p.used) < m.qty then .error 21 else .ok (i, p)
def takeV (l : Ly) (q : Int) : Int := partN l.value q l.qty
def takeX (l : Ly) (q : Int) : Ly := { l with qty := W (l.qty - q), value := W (l.value - takeV l q) }
def takeL (ls : List Ly) (i : Nat) (l : Ly) (q : Int) : List Ly := if W (l.qty - q) = 0 then ls.eraseIdx i else ls.set i (takeX l q)
def fRecv (t : Sk) (m : Mv) (c : Co) : Except Int (Sk × Co) :=
  .ok ({ t with layers := t.layers ++ [⟨m.seq, m.lot, m.qty, m.cost⟩], past := t.past ++ [⟨m.seq, m.kind, m.lot, m.qty, m.cost, 0, 0⟩] }, { c with qty := m.qty, value := m.cost })
def issueL : List Ly → Int → Int → List Ly × Int
  | [], _, v => ([], v)
  | l :: ls, left, v => if left ≤ 0 then (l :: ls, v) else
    let q := if l.qty < left then l.qty else left
    if W (l.qty - q) = 0 then issueL ls (W (left - q)) (W (v + takeV l q)) else (takeX l q :: ls, W (v + takeV l q))
def fIssue (t : Sk) (m : Mv) (c : Co) : Except Int (Sk × Co) :=
  if t.qty < m.qty then .error 21 else
    let r := issueL t.layers m.qty 0
    .ok ({ t with layers := r.1, past := t.past ++ [⟨m.seq, m.kind, m.lot, m.qty, r.2, 0, 0⟩] }, { c with qty := W (0 - m.qty), value := W (0 - r.2) })
def backV (p : Pa) (m : Mv) : Int := partN (W (p.value - p.usedValue)) m.qty (W (p.qty - p.used))
def backP (p : Pa) (m : Mv) : Pa := { p with used := W (p.used + m.qty), usedValue := W (p.usedValue + backV p m) }
def fBack (t : Sk) (m : Mv) (c : Co) : Except Int (Sk × Co) :=
  match refd 2 m t.past with
  | .error e => .error e
  | .ok (i, p) => .ok ({ t with layers := t.layers ++ [⟨m.seq, p.lot, m.qty, backV p m⟩], past := t.past.set i (backP p m) }, { c with qty := m.qty, value := backV p m })
def sendP (p : Pa) (m : Mv) : Pa := { p with used := W (p.used + m.qty) }
def fSend (t : Sk) (m : Mv) (c : Co) : Except Int (Sk × Co) :=
  match refd 1 m t.past with
  | .error e => .error e
  | .ok (i, p) => match findI (isLy m.ref) t.layers with
    | none => .error 21
    | some (j, l) => if l.qty < m.qty then .error 21 else
      .ok ({ t with layers := takeL t.layers j l m.qty, past := t.past.set i (sendP p m) }, { c with qty := W (0 - m.qty), value := W (0 - takeV l m.qty), var := W (takeV l m.qty - m.cost) })
def fLand (t : Sk) (m : Mv) (c : Co) : Except Int (Sk × Co) :=
  match refd 1 m t.past with
  | .error e => .error e
  | .ok (_, p) => match findI (isLy m.ref) t.layers with
    | none => .ok (t, { c with var := W (m.cost - c.value) })
    | some (j, l) => .ok ({ t with layers := t.layers.set j { l with value := W (l.value + partN m.cost l.qty p.qty) } }, { c with value := partN m.cost l.qty p.qty, var := W (m.cost - partN m.cost l.qty p.qty) })
def fDo (t : Sk) (m : Mv) (c : Co) : Except Int (Sk × Co) :=
  if m.kind = 1 then fRecv t m c else if m.kind = 2 then fIssue t m c else if m.kind = 3 then fBack t m c else if m.kind = 4 then fSend t m c else if m.kind = 5 then fLand t m c else .error 10
def overB (t : Sk) (c : Co) : Bool := t.layers.any (fun l => farB l.value) || (decide (1000000000 < t.qty) || farB t.value || farB c.var)
def summed (t : Sk) (c : Co) : Sk := { t with qty := W (t.qty + c.qty), value := W (t.value + c.value) }
def fStep (s : Sk) (m : Mv) : Except Int (Sk × Co) :=
  if m.one ≠ 0 then .error m.one else if (findI (isPast 0 m.seq) s.past).isSome = true then .error 8 else
  match fDo s m ⟨m.seq, 0, 0, 0⟩ with
  | .error e => .error e
  | .ok (t, c) => if overB (summed t c) c = true then .error 4 else .ok (summed t c, c)
attribute [irreducible] findI partN isPast isLy
end Go.SL

namespace Go.SL
open Go
theorem refd_spec {kind : Int} {m : Mv} {ps : List Pa} {i : Nat} {p : Pa} (h : refd kind m ps = .ok (i, p)) : ps[i]? = some p ∧ isPast kind m.ref p = true ∧ m.qty ≤ W (p.qty - p.used) := by
  unfold refd at h
  split at h
  · cases h
  · rename_i j q hf
    split at h
    · cases h
    · rename_i hlt; cases h; exact ⟨(findI_some hf).1, (findI_some hf).2, by omega⟩
end Go.SL

namespace Go.SL
open Go
theorem Gives.refl : ∀ L : List HP, Gives L L
  | [] => .nil
  | A :: L => .cons .here (Gives.refl L)
def priceV (m : Mv) (p : Int) : Int := if mulOk m.qty p = true then mulN m.qty p else 0
def priceE (m : Mv) (p : Int) : Int := if mulOk m.qty p = true then 0 else 4
def sRecv (t : Sk) (m : Mv) (c : Co) : Except Int (Sk × Co) :=
  if priceE m t.price ≠ 0 then .error (priceE m t.price) else
    .ok ({ t with past := t.past ++ [⟨m.seq, m.kind, m.lot, m.qty, m.cost, 0, 0⟩] }, ⟨0, m.qty, priceV m t.price, W (m.cost - priceV m t.price)⟩)
def sIssue (t : Sk) (m : Mv) (c : Co) : Except Int (Sk × Co) :=
  if t.qty < m.qty then .error 21 else if priceE m t.price ≠ 0 then .error (priceE m t.price) else
    .ok ({ t with past := t.past ++ [⟨m.seq, m.kind, m.lot, m.qty, priceV m t.price, 0, 0⟩] }, ⟨0, W (0 - m.qty), W (0 - priceV m t.price), 0⟩)
def sCust (t : Sk) (m : Mv) (c : Co) : Except Int (Sk × Co) :=
  match refd 2 m t.past with
  | .error e => .error e
  | .ok (i, p) => if priceE m t.price ≠ 0 then .error (priceE m t.price) else
    .ok ({ t with past := t.past.set i (backP p m) }, ⟨0, m.qty, priceV m t.price, W (backV p m - priceV m t.price)⟩)
def sSupp (t : Sk) (m : Mv) (c : Co) : Except Int (Sk × Co) :=
  match refd 1 m t.past with
  | .error e => .error e
  | .ok (i, p) => if t.qty < m.qty then .error 21 else if priceE m t.price ≠ 0 then .error (priceE m t.price) else
    .ok ({ t with past := t.past.set i (sendP p m) }, ⟨0, W (0 - m.qty), W (0 - priceV m t.price), W (priceV m t.price - m.cost)⟩)
def sLand (t : Sk) (m : Mv) (c : Co) : Except Int (Sk × Co) :=
  match refd 1 m t.past with
  | .error e => .error e
  | .ok _ => .ok (t, ⟨0, 0, 0, m.cost⟩)
def reprV (t : Sk) (m : Mv) : Int := mulN t.qty (subN m.cost t.price)
def sRepr (t : Sk) (m : Mv) (c : Co) : Except Int (Sk × Co) :=
  if (!subOk m.cost t.price || !mulOk t.qty (subN m.cost t.price) || !withinB (reprV t m)) = true then .error 4 else
    .ok ({ t with price := m.cost }, ⟨0, 0, reprV t m, W (0 - reprV t m)⟩)
def sDo (t : Sk) (m : Mv) (c : Co) : Except Int (Sk × Co) :=
  if m.kind = 1 then sRecv t m c else if m.kind = 2 then sIssue t m c else if m.kind = 3 then sCust t m c else if m.kind = 4 then sSupp t m c else if m.kind = 5 then sLand t m c else sRepr t m c
def sSum (s t : Sk) (c : Co) : Sk := { t with qty := W (s.qty + c.qty), value := addN s.value c.value }
def sOver (s t : Sk) (c : Co) : Bool := !addOk s.value c.value || decide (1000000000 < W (s.qty + c.qty)) || !withinB (addN s.value c.value) || !withinB c.var
def sStep (s : Sk) (m : Mv) : Except Int (Sk × Co) :=
  if m.one ≠ 0 then .error m.one else if ((findI (isPast 1 m.seq) s.past).isSome || (findI (isPast 2 m.seq) s.past).isSome) = true then .error 8 else
  match sDo s m ⟨0, 0, 0, 0⟩ with
  | .error e => .error e
  | .ok (t, c) => if sOver s t c = true then .error 4 else .ok (sSum s t c, { c with seq := m.seq })
theorem sDo_1 {t : Sk} {m : Mv} {c : Co} (h : m.kind = 1) : sDo t m c = sRecv t m c := by unfold sDo; rw [if_pos h]
theorem sDo_2 {t : Sk} {m : Mv} {c : Co} (h : m.kind = 2) : sDo t m c = sIssue t m c := by unfold sDo; rw [if_neg (by omega), if_pos h]
theorem sDo_3 {t : Sk} {m : Mv} {c : Co} (h : m.kind = 3) : sDo t m c = sCust t m c := by unfold sDo; rw [if_neg (by omega), if_neg (by omega), if_pos h]
theorem sDo_4 {t : Sk} {m : Mv} {c : Co} (h : m.kind = 4) : sDo t m c = sSupp t m c := by unfold sDo; rw [if_neg (by omega), if_neg (by omega), if_neg (by omega), if_pos h]
theorem sDo_5 {t : Sk} {m : Mv} {c : Co} (h : m.kind = 5) : sDo t m c = sLand t m c := by unfold sDo; rw [if_neg (by omega), if_neg (by omega), if_neg (by omega), if_neg (by omega), if_pos h]
theorem sDo_6 {t : Sk} {m : Mv} {c : Co} (h : ¬ m.kind = 1 ∧ ¬ m.kind = 2 ∧ ¬ m.kind = 3 ∧ ¬ m.kind = 4 ∧ ¬ m.kind = 5) : sDo t m c = sRepr t m c := by unfold sDo; rw [if_neg h.1, if_neg h.2.1, if_neg h.2.2.1, if_neg h.2.2.2.1, if_neg h.2.2.2.2]
theorem priceV_i64 {m : Mv} {p : Int} : i64 (priceV m p) := by
  unfold priceV
  split
  · rename_i h; unfold mulOk at h; unfold mulN; split
    · rename_i h2; exact h2
    · decide
  · decide
end Go.SL

namespace Go.SL
open Go
end Go.SL

namespace Go.SL
open Go
section
variable {P : Program} {β : Base} {n : Nat} {arr : Array Oper} {os : List Oper} {E : Env} {L M1 M2 : List HP} {A B : HP} {K : Env → List HP → Prop}
end
def aRecv (t : Sk) (m : Mv) : Except Int (Sk × Co) := .ok ({ t with past := t.past ++ [⟨m.seq, m.kind, m.lot, m.qty, m.cost, 0, 0⟩] }, ⟨m.seq, m.qty, m.cost, 0⟩)
def avgV (t : Sk) (m : Mv) : Int := partN t.value m.qty t.qty
def aIssue (t : Sk) (m : Mv) : Except Int (Sk × Co) :=
  if t.qty < m.qty then .error 21 else .ok ({ t with past := t.past ++ [⟨m.seq, m.kind, m.lot, m.qty, avgV t m, 0, 0⟩] }, ⟨m.seq, W (0 - m.qty), W (0 - avgV t m), 0⟩)
def aBack (t : Sk) (m : Mv) : Except Int (Sk × Co) :=
  match refd 2 m t.past with
  | .error e => .error e
  | .ok (i, p) => .ok ({ t with past := t.past.set i (backP p m) }, ⟨m.seq, m.qty, backV p m, 0⟩)
def aSend (t : Sk) (m : Mv) : Except Int (Sk × Co) :=
  match refd 1 m t.past with
  | .error e => .error e
  | .ok (i, p) => if t.qty < m.qty then .error 21 else .ok ({ t with past := t.past.set i (sendP p m) }, ⟨m.seq, W (0 - m.qty), W (0 - avgV t m), W (avgV t m - m.cost)⟩)
def landV (t : Sk) (p : Pa) (m : Mv) : Int := partN m.cost (if t.qty < p.qty then t.qty else p.qty) p.qty
def aLand (t : Sk) (m : Mv) : Except Int (Sk × Co) :=
  match refd 1 m t.past with
  | .error e => .error e
  | .ok (_, p) => .ok (t, ⟨m.seq, 0, landV t p m, W (m.cost - landV t p m)⟩)
def aDo (t : Sk) (m : Mv) : Except Int (Sk × Co) :=
  if m.kind = 1 then aRecv t m else if m.kind = 2 then aIssue t m else if m.kind = 3 then aBack t m else if m.kind = 4 then aSend t m else if m.kind = 5 then aLand t m else .error 10
def aOver (t : Sk) (c : Co) : Bool := decide (1000000000 < t.qty) || largeB t.value || largeB c.var
def aStep (s : Sk) (m : Mv) : Except Int (Sk × Co) :=
  if m.one ≠ 0 then .error m.one else if (findI (isPast 0 m.seq) s.past).isSome = true then .error 8 else
  match aDo s m with
  | .error e => .error e
  | .ok (t, c) => if aOver (summed t c) c = true then .error 4 else .ok (summed t c, c)
theorem Pick.app : ∀ {L : List HP} {A : HP} {M : List HP}, Pick L A M → ∀ N, Pick (L ++ N) A (M ++ N)
  | _, _, _, .here, _ => .here
  | _, _, _, .there p, N => .there (p.app N)
theorem Gives.mono : ∀ {L M : List HP}, Gives L M → ∀ N, Gives (L ++ N) M
  | _, _, .nil, _ => .nil
  | _, _, .cons p g, N => .cons (p.app N) (g.mono N)
theorem Gives.app (L N : List HP) : Gives (L ++ N) L := (Gives.refl L).mono N
end Go.SL

namespace Go.SL
open Go
def lotB (lot : ByteArray) (l : Ly) : Bool := decide (l.lot = lot) || !(Op.bytesLess l.lot.toList lot.toList || decide (l.lot = lot))
def lotI (lot : ByteArray) (ls : List Ly) : Nat := match findI (lotB lot) ls with | some (i, _) => i | none => ls.length
def lotF (lot : ByteArray) (ls : List Ly) : Option (Nat × Ly) := match findI (lotB lot) ls with | some (i, l) => if l.lot = lot then some (i, l) else none | none => none
def bump (l : Ly) (q v : Int) : Ly := { l with qty := W (l.qty + q), value := W (l.value + v) }
def newLy (lot : ByteArray) : Ly := ⟨0, lot, 0, 0⟩
def insL (ls : List Ly) (i : Nat) (x : Ly) : List Ly := ls.take i ++ x :: ls.drop i
def addLot (ls : List Ly) (lot : ByteArray) (q v : Int) : List Ly :=
  match lotF lot ls with | some (i, l) => ls.set i (bump l q v) | none => insL ls (lotI lot ls) (bump (newLy lot) q v)
def qtyLot (ls : List Ly) (lot : ByteArray) : Int := match lotF lot ls with | some (_, l) => l.qty | none => 0
def lRecv (t : Sk) (m : Mv) : Except Int (Sk × Co) :=
  if m.lot = ⟨#[]⟩ then .error 22 else .ok ({ t with layers := addLot t.layers m.lot m.qty m.cost, past := t.past ++ [⟨m.seq, m.kind, m.lot, m.qty, m.cost, 0, 0⟩] }, ⟨0, m.qty, m.cost, 0⟩)
def lIssue (t : Sk) (m : Mv) : Except Int (Sk × Co) :=
  match lotF m.lot t.layers with
  | none => .error 22
  | some (i, l) => if m.lot = ⟨#[]⟩ then .error 22 else if l.qty < m.qty then .error 21 else
    .ok ({ t with layers := takeL t.layers i l m.qty, past := t.past ++ [⟨m.seq, m.kind, m.lot, m.qty, takeV l m.qty, 0, 0⟩] }, ⟨0, W (0 - m.qty), W (0 - takeV l m.qty), 0⟩)
def lBackR (t : Sk) (m : Mv) (i : Nat) (p : Pa) : Except Int (Sk × Co) :=
  .ok ({ t with layers := addLot t.layers p.lot m.qty (backV p m), past := t.past.set i (backP p m) }, ⟨0, m.qty, backV p m, 0⟩)
def lSendR (t : Sk) (m : Mv) (i : Nat) (p : Pa) : Except Int (Sk × Co) :=
  match lotF p.lot t.layers with
  | none => .error 21
  | some (j, l) => if l.qty < m.qty then .error 21 else
    .ok ({ t with layers := takeL t.layers j l m.qty, past := t.past.set i (sendP p m) }, ⟨0, W (0 - m.qty), W (0 - takeV l m.qty), W (takeV l m.qty - m.cost)⟩)
def lotQ (t : Sk) (p : Pa) : Int := if qtyLot t.layers p.lot < p.qty then qtyLot t.layers p.lot else p.qty
def lLandR (t : Sk) (m : Mv) (i : Nat) (p : Pa) : Except Int (Sk × Co) :=
  if lotQ t p = 0 then .ok (t, ⟨0, 0, 0, m.cost⟩) else
    .ok ({ t with layers := addLot t.layers p.lot 0 (partN m.cost (lotQ t p) p.qty) }, ⟨0, 0, partN m.cost (lotQ t p) p.qty, W (m.cost - partN m.cost (lotQ t p) p.qty)⟩)
def lRef (k : Int) (t : Sk) (m : Mv) (R : Nat → Pa → Except Int (Sk × Co)) : Except Int (Sk × Co) :=
  match refd k m t.past with
  | .error e => .error e
  | .ok (i, p) => R i p
def lBack (t : Sk) (m : Mv) : Except Int (Sk × Co) := lRef 2 t m (lBackR t m)
def lSend (t : Sk) (m : Mv) : Except Int (Sk × Co) := lRef 1 t m (lSendR t m)
def lLand (t : Sk) (m : Mv) : Except Int (Sk × Co) := lRef 1 t m (lLandR t m)
def lDo (t : Sk) (m : Mv) : Except Int (Sk × Co) :=
  if m.kind = 1 then lRecv t m else if m.kind = 2 then lIssue t m else if m.kind = 3 then lBack t m else if m.kind = 4 then lSend t m else if m.kind = 5 then lLand t m else .error 10
def lStep (s : Sk) (m : Mv) : Except Int (Sk × Co) :=
  if m.one ≠ 0 then .error m.one else if (findI (isPast 0 m.seq) s.past).isSome = true then .error 8 else
  match lDo s m with
  | .error e => .error e
  | .ok (t, c) => if overB (summed t c) c = true then .error 4 else .ok (summed t c, { c with seq := m.seq })
theorem lotF_some {lot : ByteArray} {ls : List Ly} {i : Nat} {l : Ly} (h : lotF lot ls = some (i, l)) : ls[i]? = some l ∧ l.lot = lot ∧ lotI lot ls = i := by
  unfold lotF at h; unfold lotI
  split at h
  · rename_i j x hf
    split at h
    · rename_i hl; cases h; exact ⟨(findI_some hf).1, hl, rfl⟩
    · cases h
  · cases h
theorem insL_mem {ls : List Ly} {i : Nat} {x y : Ly} (h : y ∈ insL ls i x) : y = x ∨ y ∈ ls := by
  unfold insL at h
  rcases List.mem_append.1 h with h | h
  · exact .inr (List.mem_of_mem_take h)
  · rcases List.mem_cons.1 h with h | h
    · exact .inl h
    · exact .inr (List.mem_of_mem_drop h)
theorem aDo_layers {s t : Sk} {m : Mv} {c' : Co} (h : aDo s m = .ok (t, c')) : t.layers = s.layers := by
  unfold aDo at h
  split at h
  · unfold aRecv at h; cases h; rfl
  split at h
  · unfold aIssue at h; split at h
    · cases h
    · cases h; rfl
  split at h
  · unfold aBack at h; split at h
    · cases h
    · cases h; rfl
  split at h
  · unfold aSend at h; split at h
    · cases h
    · split at h
      · cases h
      · cases h; rfl
  split at h
  · unfold aLand at h; split at h
    · cases h
    · cases h; rfl
  · cases h
end Go.SL

namespace Go.SL
open Go
theorem W_in {n : Int} (h : i64 n) : W n = n := wrap_i64_in h
theorem partN_le {v q n : Int} (hv : 0 ≤ v) (hv2 : v ≤ 2000000000000000) (hq : 0 ≤ q) (hqn : q ≤ n) (hn : n ≤ 1000000000) (hn1 : 1 ≤ n) : 0 ≤ partN v q n ∧ partN v q n ≤ v := by
  unfold partN
  split
  · exact ⟨hv, Int.le_refl _⟩
  · rename_i hne
    have hvq : 0 ≤ v * q := Int.mul_nonneg hv hq
    have hneg : negB v q n = false := by
      unfold negB
      have h1 : decide (v < 0) = false := decide_eq_false (by omega)
      have h2 : decide (q < 0) = false := decide_eq_false (by omega)
      have h3 : decide (n < 0) = false := decide_eq_false (by omega)
      rw [h1, h2, h3]; simp
    have m1 : mag v = v := by unfold mag; split <;> omega
    have m2 : mag q = q := by unfold mag; split <;> omega
    have m3 : mag n = n := by unfold mag; split <;> omega
    have hd : 0 ≤ v * q / n := Int.ediv_nonneg hvq (by omega)
    have hsz : mdSize v q n 4 = v * q / n ∨ (mdSize v q n 4 = v * q / n + 1 ∧ v * q % n ≠ 0) := by
      unfold mdSize
      rw [m1, m2, m3]
      split
      · rename_i ha
        unfold awayB at ha
        rw [Bool.and_eq_true] at ha
        exact .inr ⟨rfl, of_decide_eq_true ha.1⟩
      · exact .inl (by omega)
    have hlt : 1 ≤ v → v * q / n < v := fun h => Int.ediv_lt_of_lt_mul (by omega) (Int.mul_lt_mul_of_pos_left (by omega) (by omega))
    have hz : v = 0 → v * q / n = 0 ∧ v * q % n = 0 := by rintro rfl; simp
    have hb : 0 ≤ mdSize v q n 4 ∧ mdSize v q n 4 ≤ v := by
      by_cases h0 : v = 0
      · have := hz h0; rcases hsz with h | ⟨h, h'⟩ <;> omega
      · have := hlt (by omega); rcases hsz with h | ⟨h, h'⟩ <;> omega
    unfold mdN
    rw [if_neg (by omega), hneg]
    unfold signedN
    simp only [Bool.false_eq_true, if_false]
    rw [if_neg (by omega)]
    exact hb
theorem partN_nonneg {v q n : Int} (hv : 0 ≤ v) (hq : 0 ≤ q) (hn : 0 ≤ n) : 0 ≤ partN v q n := by
  unfold partN
  split
  · exact hv
  · have hneg : negB v q n = false := by
      unfold negB
      rw [decide_eq_false (show ¬ v < 0 by omega), decide_eq_false (show ¬ q < 0 by omega), decide_eq_false (show ¬ n < 0 by omega)]; simp
    have h0 : 0 ≤ mdSize v q n 4 := by
      have hm : 0 ≤ mag v * mag q / mag n := Int.ediv_nonneg (Int.mul_nonneg (by unfold mag; split <;> omega) (by unfold mag; split <;> omega)) (by unfold mag; split <;> omega)
      unfold mdSize; split <;> omega
    unfold mdN
    split
    · decide
    · rw [hneg]; unfold signedN; simp only [Bool.false_eq_true, if_false]; split <;> omega
theorem partN_same {v n : Int} : partN v n n = v := by unfold partN; rw [if_pos rfl]

def sumBy {α : Type} (f : α → Int) : List α → Int
  | [] => 0
  | x :: xs => f x + sumBy f xs
theorem sumBy_append {α : Type} (f : α → Int) : ∀ xs ys : List α, sumBy f (xs ++ ys) = sumBy f xs + sumBy f ys
  | [], ys => by simp [sumBy]
  | x :: xs, ys => by simp only [List.cons_append, sumBy, sumBy_append f xs ys]; omega
theorem sumBy_set {α : Type} (f : α → Int) : ∀ (xs : List α) (i : Nat) (x y : α), xs[i]? = some x → sumBy f (xs.set i y) = sumBy f xs - f x + f y
  | [], i, x, y, h => by cases h
  | a :: xs, 0, x, y, h => by cases h; simp only [List.set_cons_zero, sumBy]; omega
  | a :: xs, i + 1, x, y, h => by simp only [List.set_cons_succ, sumBy, sumBy_set f xs i x y (by simpa using h)]; omega
theorem sumBy_erase {α : Type} (f : α → Int) : ∀ (xs : List α) (i : Nat) (x : α), xs[i]? = some x → sumBy f (xs.eraseIdx i) = sumBy f xs - f x
  | [], i, x, h => by cases h
  | a :: xs, 0, x, h => by cases h; simp only [List.eraseIdx_cons_zero, sumBy]; omega
  | a :: xs, i + 1, x, h => by simp only [List.eraseIdx_cons_succ, sumBy, sumBy_erase f xs i x (by simpa using h)]; omega
theorem sumBy_ins (f : Ly → Int) (ls : List Ly) (i : Nat) (x : Ly) : sumBy f (insL ls i x) = sumBy f ls + f x := by
  have h := sumBy_append f (ls.take i) (ls.drop i)
  rw [List.take_append_drop] at h
  simp only [insL, sumBy_append, sumBy]; omega
theorem sumBy_nonneg {α : Type} {f : α → Int} : ∀ {xs : List α}, (∀ x ∈ xs, 0 ≤ f x) → 0 ≤ sumBy f xs
  | [], _ => Int.le_refl _
  | x :: xs, h => by
    have h1 := h x (by simp); have h2 := sumBy_nonneg (f := f) (xs := xs) fun y hy => h y (by simp [hy])
    simp only [sumBy]; omega
theorem sumBy_le {α : Type} {f : α → Int} {xs : List α} {i : Nat} {x : α} (h : ∀ x ∈ xs, 0 ≤ f x) (hx : xs[i]? = some x) : f x ≤ sumBy f xs := by
  have h1 := sumBy_erase f xs i x hx
  have h2 := sumBy_nonneg (f := f) (xs := xs.eraseIdx i) fun y hy => h y (List.mem_of_mem_eraseIdx hy)
  omega
def LG (l : Ly) : Prop := 1 ≤ l.qty ∧ 0 ≤ l.value
def LGs (ls : List Ly) : Prop := ∀ l ∈ ls, LG l
theorem LGs.q {ls : List Ly} (h : LGs ls) : ∀ l ∈ ls, 0 ≤ l.qty := fun l hl => by have := (h l hl).1; omega
theorem LGs.v {ls : List Ly} (h : LGs ls) : ∀ l ∈ ls, 0 ≤ l.value := fun l hl => (h l hl).2
theorem mem_set {α : Type} {xs : List α} {i : Nat} {x y : α} (h : y ∈ xs.set i x) : y = x ∨ y ∈ xs := by
  rcases List.mem_or_eq_of_mem_set h with h | h
  · exact .inr h
  · exact .inl h
theorem takeV_le {l : Ly} {q : Int} (hl : LG l) (h1 : 0 ≤ q) (h2 : q ≤ l.qty) (hq : l.qty ≤ 1000000000) (hv : l.value ≤ 1000000000000000) : 0 ≤ takeV l q ∧ takeV l q ≤ l.value :=
  partN_le hl.2 (by omega) h1 h2 hq hl.1
theorem takeL_good {ls : List Ly} {i : Nat} {l : Ly} {q : Int} (h : LGs ls) (hx : ls[i]? = some l) (h1 : 1 ≤ q) (h2 : q ≤ l.qty) (hq : sumBy Ly.qty ls ≤ 1000000000) (hv : sumBy Ly.value ls ≤ 1000000000000000) :
    LGs (takeL ls i l q) ∧ sumBy Ly.qty (takeL ls i l q) = sumBy Ly.qty ls - q ∧ sumBy Ly.value (takeL ls i l q) = sumBy Ly.value ls - takeV l q ∧ 0 ≤ takeV l q ∧ takeV l q ≤ sumBy Ly.value ls := by
  have hl := h l (List.mem_of_getElem? hx)
  have hlq := sumBy_le h.q hx
  have hlv := sumBy_le h.v hx
  have hl1 := hl.1; have hl2 := hl.2
  have ht := takeV_le hl (by omega) h2 (by omega) (by omega)
  have hw : W (l.qty - q) = l.qty - q := W_in ⟨by omega, by omega⟩
  have hw2 : W (l.value - takeV l q) = l.value - takeV l q := W_in ⟨by omega, by omega⟩
  unfold takeL
  rw [hw]
  split
  · rename_i hz
    have hqq : q = l.qty := by omega
    have htv : takeV l q = l.value := by unfold takeV; rw [hqq]; exact partN_same
    refine ⟨fun x hx => h x (List.mem_of_mem_eraseIdx hx), ?_, ?_, ht.1, by omega⟩
    · show sumBy Ly.qty _ = _; rw [sumBy_erase _ _ _ _ hx]; omega
    · show sumBy Ly.value _ = _; rw [sumBy_erase _ _ _ _ hx, htv]
  · rename_i hz
    have e : takeX l q = { l with qty := l.qty - q, value := l.value - takeV l q } := by unfold takeX; rw [hw, hw2]
    rw [e]
    refine ⟨fun x hx => ?_, ?_, ?_, ht.1, by omega⟩
    · rcases mem_set hx with rfl | hx
      · exact ⟨by simp only; omega, by simp only; omega⟩
      · exact h x hx
    · show sumBy Ly.qty _ = _; rw [sumBy_set _ _ _ _ _ hx]; simp only; omega
    · show sumBy Ly.value _ = _; rw [sumBy_set _ _ _ _ _ hx]; simp only; omega
theorem issueL_good : ∀ (ls : List Ly) (left v : Int), LGs ls → 0 ≤ left → left ≤ sumBy Ly.qty ls → sumBy Ly.qty ls ≤ 1000000000 → 0 ≤ v → v + sumBy Ly.value ls ≤ 1000000000000000 →
    LGs (issueL ls left v).1 ∧ sumBy Ly.qty (issueL ls left v).1 = sumBy Ly.qty ls - left ∧ (issueL ls left v).2 + sumBy Ly.value (issueL ls left v).1 = v + sumBy Ly.value ls ∧ 0 ≤ (issueL ls left v).2
  | [], left, v, h, h0, h1, hq, hv, hs => by
    simp only [sumBy] at h1
    have : left = 0 := by omega
    subst this
    exact ⟨h, by simp [issueL, sumBy], rfl, hv⟩
  | l :: ls, left, v, h, h0, h1, hq, hv, hs => by
    have hl := h l (by simp)
    have hr : LGs ls := fun x hx => h x (by simp [hx])
    have hrq := sumBy_nonneg hr.q; have hrv := sumBy_nonneg hr.v
    have hl1 := hl.1; have hl2 := hl.2
    simp only [sumBy] at h1 hq hs ⊢
    unfold issueL
    split
    · exact ⟨h, by simp only [sumBy]; omega, by simp only [sumBy], hv⟩
    · rename_i hp
      simp only
      by_cases hlt : l.qty < left
      · rw [if_pos hlt, Int.sub_self, if_pos (show W 0 = 0 by decide)]
        have ht : takeV l l.qty = l.value := by unfold takeV; exact partN_same
        rw [ht, W_in (show i64 (left - l.qty) from ⟨by omega, by omega⟩), W_in (show i64 (v + l.value) from ⟨by omega, by omega⟩)]
        have ih := issueL_good ls (left - l.qty) (v + l.value) hr (by omega) (by omega) (by omega) (by omega) (by omega)
        exact ⟨ih.1, by rw [ih.2.1]; omega, by rw [ih.2.2.1]; omega, ih.2.2.2⟩
      · rw [if_neg hlt, W_in (show i64 (l.qty - left) from ⟨by omega, by omega⟩)]
        have htl := takeV_le (q := left) hl (by omega) (by omega) (by omega) (by omega)
        split
        · rename_i hz
          have hll : left = l.qty := by omega
          have ht : takeV l left = l.value := by unfold takeV; rw [hll]; exact partN_same
          rw [ht, Int.sub_self, W_in (show i64 0 by decide), W_in (show i64 (v + l.value) from ⟨by omega, by omega⟩)]
          have ih := issueL_good ls 0 (v + l.value) hr (by omega) (by omega) (by omega) (by omega) (by omega)
          exact ⟨ih.1, by rw [ih.2.1]; omega, by rw [ih.2.2.1]; omega, ih.2.2.2⟩
        · rename_i hz
          rw [W_in (show i64 (v + takeV l left) from ⟨by omega, by omega⟩)]
          have e : takeX l left = { l with qty := l.qty - left, value := l.value - takeV l left } := by
            unfold takeX; rw [W_in (show i64 (l.qty - left) from ⟨by omega, by omega⟩), W_in (show i64 (l.value - takeV l left) from ⟨by omega, by omega⟩)]
          rw [e]
          refine ⟨fun x hx => ?_, by simp only [sumBy]; omega, by simp only [sumBy]; omega, by simp only; omega⟩
          rcases List.mem_cons.1 hx with rfl | hx
          · exact ⟨by simp only; omega, by simp only; omega⟩
          · exact hr x hx

structure PG (p : Pa) : Prop where
  kd : p.kind = 1 ∨ p.kind = 2
  q1 : 1 ≤ p.qty
  q2 : p.qty ≤ 1000000000
  u0 : 0 ≤ p.used
  u1 : p.used ≤ p.qty
  v0 : 0 ≤ p.value
  v1 : p.value ≤ 2000000000000000
  w0 : 0 ≤ p.usedValue
  w1 : p.usedValue ≤ p.value
  full : p.used = p.qty → p.kind = 2 → p.usedValue = p.value
def seqNew (seq : Int) (ps : List Pa) : Prop := ∀ p ∈ ps, p.seq ≠ seq
structure PGs (ps : List Pa) : Prop where
  all : ∀ p ∈ ps, PG p
  uniq : (ps.map Pa.seq).Nodup
theorem isPast_iff {kind seq : Int} {p : Pa} : isPast kind seq p = true ↔ p.seq = seq ∧ (kind = 0 ∨ p.kind = kind) := by
  unfold isPast; simp
theorem back_good {p : Pa} {m : Mv} (h : PG p) (h1 : 1 ≤ m.qty) (h2 : m.qty ≤ W (p.qty - p.used)) :
    PG (backP p m) ∧ (backP p m).used = p.used + m.qty ∧ (backP p m).usedValue = p.usedValue + backV p m ∧ 0 ≤ backV p m ∧ backV p m ≤ p.value - p.usedValue := by
  obtain ⟨kd, q1, q2, u0, u1, v0, v1, w0, w1, full⟩ := h
  have e1 : W (p.qty - p.used) = p.qty - p.used := W_in ⟨by omega, by omega⟩
  have e2 : W (p.value - p.usedValue) = p.value - p.usedValue := W_in ⟨by omega, by omega⟩
  rw [e1] at h2
  have hb : 0 ≤ backV p m ∧ backV p m ≤ p.value - p.usedValue := by
    unfold backV; rw [e1, e2]; exact partN_le (by omega) (by omega) (by omega) h2 (by omega) (by omega)
  have hf : m.qty = p.qty - p.used → backV p m = p.value - p.usedValue := fun e => by unfold backV; rw [e1, e2, e]; exact partN_same
  have e : backP p m = { p with used := p.used + m.qty, usedValue := p.usedValue + backV p m } := by
    unfold backP; rw [W_in (show i64 (p.used + m.qty) from ⟨by omega, by omega⟩), W_in (show i64 (p.usedValue + backV p m) from ⟨by omega, by omega⟩)]
  rw [e]
  refine ⟨⟨kd, q1, q2, ?_, ?_, v0, v1, ?_, ?_, ?_⟩, rfl, rfl, hb⟩ <;> simp only
  · omega
  · omega
  · omega
  · omega
  · intro hu hk; have := hf (by omega); omega
theorem send_good {p : Pa} {m : Mv} (h : PG p) (hk : p.kind = 1) (h1 : 1 ≤ m.qty) (h2 : m.qty ≤ W (p.qty - p.used)) : PG (sendP p m) := by
  obtain ⟨kd, q1, q2, u0, u1, v0, v1, w0, w1, full⟩ := h
  have e1 : W (p.qty - p.used) = p.qty - p.used := W_in ⟨by omega, by omega⟩
  rw [e1] at h2
  have e : sendP p m = { p with used := p.used + m.qty } := by unfold sendP; rw [W_in (show i64 (p.used + m.qty) from ⟨by omega, by omega⟩)]
  rw [e]
  refine ⟨kd, q1, q2, ?_, ?_, v0, v1, w0, w1, ?_⟩ <;> simp only
  · omega
  · omega
  · intro hu hk'; omega
theorem PGs.set {ps : List Pa} {i : Nat} {p p' : Pa} (h : PGs ps) (hx : ps[i]? = some p) (hp : PG p') (hs : p'.seq = p.seq) : PGs (ps.set i p') := by
  refine ⟨fun x hx' => ?_, ?_⟩
  · rcases mem_set hx' with rfl | hx'
    · exact hp
    · exact h.all x hx'
  · rw [List.map_set, hs]
    have : (ps.map Pa.seq).set i p.seq = ps.map Pa.seq := by
      apply List.ext_getElem?
      intro j
      rw [List.getElem?_set]
      split
      · rename_i e; subst e; split
        · rw [List.getElem?_map, hx]; rfl
        · rename_i hlt; rw [List.getElem?_eq_none (by omega)]
      · rfl
    rw [this]; exact h.uniq
theorem PGs.add {ps : List Pa} {p : Pa} (h : PGs ps) (hp : PG p) (hn : seqNew p.seq ps) : PGs (ps ++ [p]) := by
  refine ⟨fun x hx => ?_, ?_⟩
  · rcases List.mem_append.1 hx with hx | hx
    · exact h.all x hx
    · rw [List.mem_singleton.1 hx]; exact hp
  · rw [List.map_append, List.map_singleton, List.nodup_append]
    refine ⟨h.uniq, by simp, ?_⟩
    intro a ha b hb
    rw [List.mem_singleton.1 hb]
    obtain ⟨x, hx, rfl⟩ := List.mem_map.1 ha
    exact hn x hx
theorem seqNew_of_none {seq : Int} {ps : List Pa} (h : ¬ (findI (isPast 0 seq) ps).isSome = true) : seqNew seq ps := fun p hp e => by
  apply h
  obtain ⟨i, hi, rfl⟩ := List.getElem_of_mem hp
  unfold findI
  cases hf : ps.findIdx? (isPast 0 seq) with
  | none => rw [List.findIdx?_eq_none_iff] at hf; have := hf _ hp; rw [Bool.eq_false_iff] at this; exact absurd (isPast_iff.2 ⟨e, .inl rfl⟩) this
  | some j =>
    obtain ⟨hj, _, _⟩ := List.findIdx?_eq_some_iff_getElem.1 hf
    simp [List.getElem?_eq_getElem hj]
theorem findI_isSome {α : Type} {f : α → Bool} {xs : List α} {x : α} (hx : x ∈ xs) (hf : f x = true) : (findI f xs).isSome = true := by
  unfold findI
  cases h : xs.findIdx? f with
  | none => rw [List.findIdx?_eq_none_iff] at h; have := h _ hx; rw [hf] at this; cases this
  | some j =>
    obtain ⟨hj, _, _⟩ := List.findIdx?_eq_some_iff_getElem.1 h
    simp [List.getElem?_eq_getElem hj]
theorem seqNew_of_two {seq : Int} {ps : List Pa} (hk : ∀ p ∈ ps, PG p) (h : ¬ ((findI (isPast 1 seq) ps).isSome || (findI (isPast 2 seq) ps).isSome) = true) : seqNew seq ps := fun p hp e => by
  apply h
  rw [Bool.or_eq_true]
  rcases (hk p hp).kd with hk | hk
  · exact .inl (findI_isSome hp (isPast_iff.2 ⟨e, .inr hk⟩))
  · exact .inr (findI_isSome hp (isPast_iff.2 ⟨e, .inr hk⟩))

structure MG (m : Mv) : Prop where
  k : 1 ≤ m.kind ∧ m.kind ≤ 6
  q : (m.kind = 5 ∨ m.kind = 6 → m.qty = 0) ∧ (m.kind = 1 ∨ m.kind = 2 ∨ m.kind = 3 ∨ m.kind = 4 → 1 ≤ m.qty ∧ m.qty ≤ 1000000000)
  c : 0 ≤ m.cost ∧ m.cost ≤ 1000000000000
  c0 : m.kind = 2 ∨ m.kind = 3 → m.cost = 0
theorem inB_true {n lo hi : Int} : inB n lo hi = true ↔ lo ≤ n ∧ n ≤ hi := by unfold inB; simp
theorem MG.of {m : Mv} (h : m.one = 0) : MG m := by
  have hk := @inB_true m.kind 1 6
  unfold Mv.one at h
  split at h
  · cases h
  split at h
  · cases h
  split at h
  · cases h
  rename_i h3
  split at h
  · cases h
  rename_i h4
  have h3' : inB m.kind 1 6 = true := by simpa using h3
  have hk' := hk.1 h3'
  have h4' : m.quantityOk = true ∧ m.costOk = true := by simpa using h4
  obtain ⟨hq, hc⟩ := h4'
  unfold Mv.quantityOk at hq
  unfold Mv.costOk at hc
  refine ⟨hk', ⟨fun e => ?_, fun e => ?_⟩, ?_, fun e => ?_⟩
  · rw [if_pos e] at hq; exact of_decide_eq_true hq
  · rw [if_neg (by omega)] at hq; exact inB_true.1 hq
  · split at hc
    · have := of_decide_eq_true hc; omega
    · split at hc
      · have := inB_true.1 hc; omega
      · exact inB_true.1 hc
  · rw [if_pos e] at hc; exact of_decide_eq_true hc
theorem near_in {n lo hi : Int} (h : near n lo hi = n) (hlh : lo ≤ hi) : lo ≤ n ∧ n ≤ hi := by
  unfold near at h; split at h
  · omega
  · split at h <;> omega
theorem farB_no {n : Int} (h : ¬ farB n = true) : -1000000000000000 ≤ n ∧ n ≤ 1000000000000000 := by
  unfold farB at h
  have : near n (-1000000000000000) 1000000000000000 = n := by simpa using h
  exact near_in this (by decide)
theorem largeB_no {n : Int} (h : ¬ largeB n = true) : -1000000000000000 ≤ n ∧ n ≤ 1000000000000000 := by
  unfold largeB at h
  have := of_decide_eq_false (Bool.eq_false_iff.2 h); omega
theorem withinB_yes {n : Int} (h : withinB n = true) : -1000000000000000 ≤ n ∧ n ≤ 1000000000000000 := by
  unfold withinB at h
  exact of_decide_eq_true h
end Go.SL

namespace Go.SL
open Go
structure SG (s : Sk) : Prop where
  q0 : 0 ≤ s.qty
  q1 : s.qty ≤ 1000000000
  v0 : -1000000000000000 ≤ s.value
  v1 : s.value ≤ 1000000000000000
  ps : PGs s.past
structure PF (s t : Sk) (m : Mv) (c : Co) : Prop where
  cq : c.qty = if m.kind = 1 ∨ m.kind = 3 then m.qty else if m.kind = 2 ∨ m.kind = 4 then -m.qty else 0
  e15 : m.kind = 1 ∨ m.kind = 5 → c.value + c.var = m.cost
  e4 : m.kind = 4 → c.value + c.var = -m.cost
  e6 : m.kind = 6 → c.value + c.var = 0
  e2 : m.kind = 2 → c.var = 0 ∧ c.value ≤ 0 ∧ -2000000000000000 ≤ c.value
  p1 : m.kind = 1 → t.past = s.past ++ [⟨m.seq, m.kind, m.lot, m.qty, m.cost, 0, 0⟩]
  p2 : m.kind = 2 → t.past = s.past ++ [⟨m.seq, m.kind, m.lot, m.qty, -c.value, 0, 0⟩]
  p3 : m.kind = 3 → ∃ i p, s.past[i]? = some p ∧ p.kind = 2 ∧ p.seq = m.ref ∧ t.past = s.past.set i (backP p m) ∧ c.value + c.var = backV p m ∧ m.qty ≤ W (p.qty - p.used)
  p4 : m.kind = 4 → ∃ i p, s.past[i]? = some p ∧ p.kind = 1 ∧ p.seq = m.ref ∧ t.past = s.past.set i (sendP p m) ∧ m.qty ≤ W (p.qty - p.used)
  p5 : m.kind = 5 ∨ m.kind = 6 → t.past = s.past
structure SF (s t : Sk) (m : Mv) (c : Co) : Prop where
  mg : MG m
  new : seqNew m.seq s.past
  seq : c.seq = m.seq
  tq : t.qty = s.qty + c.qty
  tv : t.value = s.value + c.value
  r0 : -1000000000000000 ≤ c.var
  r1 : c.var ≤ 1000000000000000
  pf : PF s t m c
theorem refd_one {k : Int} {m : Mv} {ps : List Pa} {i : Nat} {p : Pa} (hk : k ≠ 0) (h : refd k m ps = .ok (i, p)) : ps[i]? = some p ∧ p.kind = k ∧ p.seq = m.ref ∧ m.qty ≤ W (p.qty - p.used) := by
  obtain ⟨h1, h2, h3⟩ := refd_spec h
  have := isPast_iff.1 h2
  exact ⟨h1, by rcases this.2 with h | h; exact absurd h hk; exact h, this.1, h3⟩
theorem PF.past {s t : Sk} {m : Mv} {c : Co} (h : PF s t m c) (hm : MG m) (hn : seqNew m.seq s.past) (hs : PGs s.past) : PGs t.past := by
  have hk := hm.k; have hc := hm.c
  rcases (show m.kind = 1 ∨ m.kind = 2 ∨ m.kind = 3 ∨ m.kind = 4 ∨ (m.kind = 5 ∨ m.kind = 6) by omega) with hk | hk | hk | hk | hk
  · rw [h.p1 hk]
    have := hm.q.2 (.inl hk)
    exact hs.add ⟨.inl hk, this.1, this.2, Int.le_refl _, by simp only; omega, by simp only; omega, by simp only; omega, Int.le_refl _, by simp only; omega, fun _ h2 => by simp only at h2; omega⟩ hn
  · rw [h.p2 hk]
    have := hm.q.2 (.inr (.inl hk))
    have h2 := h.e2 hk
    exact hs.add ⟨.inr hk, this.1, this.2, Int.le_refl _, by simp only; omega, by simp only; omega, by simp only; omega, Int.le_refl _, by simp only; omega, fun h2 _ => by simp only at h2; omega⟩ hn
  · obtain ⟨i, p, hx, hpk, hps, ht, _, hw⟩ := h.p3 hk
    have hq := hm.q.2 (.inr (.inr (.inl hk)))
    have hp := hs.all p (List.mem_of_getElem? hx)
    rw [ht]
    exact hs.set hx (back_good hp hq.1 hw).1 rfl
  · obtain ⟨i, p, hx, hpk, hps, ht, hw⟩ := h.p4 hk
    have hq := hm.q.2 (.inr (.inr (.inr hk)))
    have hp := hs.all p (List.mem_of_getElem? hx)
    rw [ht]
    exact hs.set hx (send_good hp hpk hq.1 hw) rfl
  · rw [h.p5 hk]; exact hs
structure LI (ls : List Ly) (q v : Int) : Prop where
  g : LGs ls
  q : sumBy Ly.qty ls = q
  v : sumBy Ly.value ls = v
theorem overB_no {t : Sk} {c : Co} (h : ¬ overB t c = true) : (∀ l ∈ t.layers, -1000000000000000 ≤ l.value ∧ l.value ≤ 1000000000000000) ∧ t.qty ≤ 1000000000 ∧ (-1000000000000000 ≤ t.value ∧ t.value ≤ 1000000000000000) ∧ (-1000000000000000 ≤ c.var ∧ c.var ≤ 1000000000000000) := by
  unfold overB at h
  simp only [Bool.or_eq_true, not_or, List.any_eq_true, not_exists, not_and] at h
  obtain ⟨h1, ⟨h2, h3⟩, h4⟩ := h
  exact ⟨fun l hl => farB_no (h1 l hl), by have := of_decide_eq_false (Bool.eq_false_iff.2 h2); omega, farB_no h3, farB_no h4⟩

theorem wq {a b : Int} (h1 : -10000000000000000 ≤ a ∧ a ≤ 10000000000000000) (h2 : -10000000000000000 ≤ b ∧ b ≤ 10000000000000000) : W (a + b) = a + b := W_in ⟨by omega, by omega⟩
theorem wn {a b : Int} (h1 : -10000000000000000 ≤ a ∧ a ≤ 10000000000000000) (h2 : -10000000000000000 ≤ b ∧ b ≤ 10000000000000000) : W (a - b) = a - b := W_in ⟨by omega, by omega⟩
theorem fDo_f {s t : Sk} {m : Mv} {c : Co} (hs : SG s) (hl : LI s.layers s.qty s.value) (hm : MG m) (h : fDo s m ⟨m.seq, 0, 0, 0⟩ = .ok (t, c)) (ho : ¬ overB (summed t c) c = true) :
    PF s t m c ∧ t.qty = s.qty ∧ t.value = s.value ∧ c.seq = m.seq ∧ LI t.layers (s.qty + c.qty) (s.value + c.value) ∧ -2000000000000000 ≤ c.value ∧ c.value ≤ 2000000000000000 := by
  obtain ⟨q0, q1, v0, v1, ps⟩ := hs
  obtain ⟨lg, lq, lv⟩ := hl
  have mk := hm.k; have mq := hm.q; have mc := hm.c
  obtain ⟨ho1, ho2, ho3, ho4⟩ := overB_no ho
  unfold fDo at h
  split at h
  · rename_i hk
    have hq := mq.2 (.inl hk)
    unfold fRecv at h; cases h
    refine ⟨⟨?_, ?_, ?_, ?_, ?_, fun _ => rfl, ?_, ?_, ?_, ?_⟩, rfl, rfl, rfl, ⟨?_, ?_, ?_⟩, ?_, ?_⟩ <;> (try simp only) <;> (try omega)
    · intro x hx
      rcases List.mem_append.1 hx with hx | hx
      · exact lg x hx
      · rw [List.mem_singleton.1 hx]; exact ⟨hq.1, mc.1⟩
    · rw [sumBy_append]; simp only [sumBy]; omega
    · rw [sumBy_append]; simp only [sumBy]; omega
  split at h
  · rename_i hk1 hk
    have hq := mq.2 (.inr (.inl hk))
    unfold fIssue at h
    split at h
    · cases h
    · rename_i hlt
      cases h
      have hi := issueL_good s.layers m.qty 0 lg (by omega) (by omega) (by omega) (by decide) (by omega)
      have hnn := sumBy_nonneg hi.1.v
      have hw : W (0 - m.qty) = -m.qty := by rw [wn ⟨by decide, by decide⟩ ⟨by omega, by omega⟩]; omega
      have hw2 : W (0 - (issueL s.layers m.qty 0).2) = -(issueL s.layers m.qty 0).2 := by rw [wn ⟨by decide, by decide⟩ ⟨by omega, by omega⟩]; omega
      rw [hw, hw2]
      refine ⟨⟨?_, ?_, ?_, ?_, ?_, ?_, fun _ => ?_, ?_, ?_, ?_⟩, rfl, rfl, rfl, ⟨hi.1, ?_, ?_⟩, ?_, ?_⟩ <;> (try simp only) <;> (try omega)
      · exact fun _ => ⟨trivial, by omega, by omega⟩
      · rw [Int.neg_neg]
  split at h
  · rename_i hk1 hk2 hk
    have hq := mq.2 (.inr (.inr (.inl hk)))
    unfold fBack at h
    split at h
    · cases h
    · rename_i i p hr
      cases h
      have hr' := refd_one (by decide) hr
      have hp := ps.all p (List.mem_of_getElem? hr'.1)
      have hb := back_good hp hq.1 hr'.2.2.2
      have hpv := hp.v1; have hpw := hp.w0
      refine ⟨⟨?_, ?_, ?_, ?_, ?_, ?_, ?_, fun _ => ⟨i, p, hr'.1, hr'.2.1, hr'.2.2.1, rfl, ?_, hr'.2.2.2⟩, ?_, ?_⟩, rfl, rfl, rfl, ⟨?_, ?_, ?_⟩, ?_, ?_⟩ <;> (try simp only) <;> (try omega)
      · intro x hx
        rcases List.mem_append.1 hx with hx | hx
        · exact lg x hx
        · rw [List.mem_singleton.1 hx]; exact ⟨hq.1, hb.2.2.2.1⟩
      · rw [sumBy_append]; simp only [sumBy]; omega
      · rw [sumBy_append]; simp only [sumBy]; omega
  split at h
  · rename_i hk1 hk2 hk3 hk
    have hq := mq.2 (.inr (.inr (.inr hk)))
    unfold fSend at h
    split at h
    · cases h
    · rename_i i p hr
      split at h
      · cases h
      · rename_i j l hf
        split at h
        · cases h
        · rename_i hlt
          cases h
          have hr' := refd_one (by decide) hr
          have hp := ps.all p (List.mem_of_getElem? hr'.1)
          have ht := takeL_good lg (findI_some hf).1 hq.1 (by omega) (by omega) (by omega)
          have hw : W (0 - m.qty) = -m.qty := by rw [wn ⟨by decide, by decide⟩ ⟨by omega, by omega⟩]; omega
          have hw2 : W (0 - takeV l m.qty) = -takeV l m.qty := by rw [wn ⟨by decide, by decide⟩ ⟨by omega, by omega⟩]; omega
          have hw3 : W (takeV l m.qty - m.cost) = takeV l m.qty - m.cost := wn ⟨by omega, by omega⟩ ⟨by omega, by omega⟩
          rw [hw, hw2, hw3]
          refine ⟨⟨?_, ?_, ?_, ?_, ?_, ?_, ?_, ?_, fun _ => ⟨i, p, hr'.1, hr'.2.1, hr'.2.2.1, rfl, hr'.2.2.2⟩, ?_⟩, rfl, rfl, rfl, ⟨ht.1, ?_, ?_⟩, ?_, ?_⟩ <;> (try simp only) <;> (try omega)
  split at h
  · rename_i hk1 hk2 hk3 hk4 hk
    have hq := mq.1 (.inl hk)
    unfold fLand at h
    split at h
    · cases h
    · rename_i i p hr
      have hr' := refd_one (by decide) hr
      have hp := ps.all p (List.mem_of_getElem? hr'.1)
      split at h
      · cases h
        have hw : W (m.cost - 0) = m.cost := by rw [Int.sub_zero]; exact W_in ⟨by omega, by omega⟩
        rw [hw]
        refine ⟨⟨?_, ?_, ?_, ?_, ?_, ?_, ?_, ?_, ?_, fun _ => rfl⟩, rfl, rfl, rfl, ⟨lg, ?_, ?_⟩, ?_, ?_⟩ <;> (try simp only) <;> (try omega)
      · rename_i j l hf
        cases h
        have hx := (findI_some hf).1
        have hlm := List.mem_of_getElem? hx
        have hlg := lg l hlm
        have h0 := partN_nonneg (v := m.cost) (q := l.qty) (n := p.qty) mc.1 (by have := hlg.1; omega) (by have := hp.q1; omega)
        have hi : i64 (partN m.cost l.qty p.qty) := partN_i64 ⟨by omega, by omega⟩ (by have := sumBy_le lg.q hx; have := hlg.1; constructor <;> omega)
        have hw : W (m.cost - partN m.cost l.qty p.qty) = m.cost - partN m.cost l.qty p.qty := W_in ⟨by omega, by omega⟩
        rw [hw] at ho4 ⊢; simp only at ho4
        have hlv := sumBy_le lg.v hx; have hl2 := hlg.2
        have hw2 : W (l.value + partN m.cost l.qty p.qty) = l.value + partN m.cost l.qty p.qty := wq ⟨by omega, by omega⟩ ⟨by omega, by omega⟩
        rw [hw2]
        refine ⟨⟨?_, ?_, ?_, ?_, ?_, ?_, ?_, ?_, ?_, fun _ => rfl⟩, rfl, rfl, rfl, ⟨?_, ?_, ?_⟩, ?_, ?_⟩ <;> (try simp only) <;> (try omega)
        · intro x hx'
          rcases mem_set hx' with rfl | hx'
          · exact ⟨hlg.1, by simp only; omega⟩
          · exact lg x hx'
        · rw [sumBy_set _ _ _ _ _ hx]; simp only; omega
        · rw [sumBy_set _ _ _ _ _ hx]; simp only; omega
  · cases h
theorem LI.nonneg {ls : List Ly} {q v : Int} (h : LI ls q v) : 0 ≤ q ∧ 0 ≤ v := ⟨h.q ▸ sumBy_nonneg h.g.q, h.v ▸ sumBy_nonneg h.g.v⟩
theorem PF.cqb {s t : Sk} {m : Mv} {c : Co} (h : PF s t m c) (hm : MG m) : -1000000000 ≤ c.qty ∧ c.qty ≤ 1000000000 := by
  have mk := hm.k; have mq := hm.q
  rw [h.cq]
  split
  · have := mq.2 (by omega); omega
  · split
    · have := mq.2 (by omega); omega
    · omega
theorem PF.reseq {s t : Sk} {m : Mv} {c : Co} (h : PF s t m c) (q v n : Int) : PF s { t with qty := q, value := v } m { c with seq := n } := ⟨h.cq, h.e15, h.e4, h.e6, h.e2, h.p1, h.p2, h.p3, h.p4, h.p5⟩
theorem summed_f {s t : Sk} {m : Mv} {c : Co} (hs : SG s) (hm : MG m) (hn : seqNew m.seq s.past) (pf : PF s t m c) (tq : t.qty = s.qty) (tv : t.value = s.value) (c0 : -2000000000000000 ≤ c.value) (c1 : c.value ≤ 2000000000000000)
    (hq : 0 ≤ s.qty + c.qty) (ho : (summed t c).qty ≤ 1000000000 ∧ (-1000000000000000 ≤ (summed t c).value ∧ (summed t c).value ≤ 1000000000000000) ∧ (-1000000000000000 ≤ c.var ∧ c.var ≤ 1000000000000000)) (n : Int) (e : n = m.seq) :
    SF s (summed t c) m { c with seq := n } ∧ SG (summed t c) := by
  obtain ⟨q0, q1, v0, v1, ps⟩ := hs
  have hcq := pf.cqb hm
  have e1 : W (t.qty + c.qty) = s.qty + c.qty := by rw [tq]; exact wq ⟨by omega, by omega⟩ ⟨by omega, by omega⟩
  have e2 : W (t.value + c.value) = s.value + c.value := by rw [tv]; exact wq ⟨by omega, by omega⟩ ⟨by omega, by omega⟩
  have e3 : summed t c = { t with qty := s.qty + c.qty, value := s.value + c.value } := by unfold summed; rw [e1, e2]
  rw [e3] at ho ⊢
  simp only at ho
  refine ⟨⟨hm, hn, e, rfl, rfl, ho.2.2.1, ho.2.2.2, pf.reseq _ _ _⟩, ⟨hq, ho.1, ho.2.1.1, ho.2.1.2, ?_⟩⟩
  exact (pf.past hm hn ps)
theorem fStep_f {s t : Sk} {m : Mv} {c : Co} (hs : SG s) (hl : LI s.layers s.qty s.value) (h : fStep s m = .ok (t, c)) : SF s t m c ∧ SG t ∧ LI t.layers t.qty t.value := by
  unfold fStep at h
  split at h
  · cases h
  rename_i h1
  have hm := MG.of (Decidable.not_not.1 h1)
  split at h
  · cases h
  rename_i h2
  have hn := seqNew_of_none h2
  split at h
  · cases h
  rename_i t' c' hd
  split at h
  · cases h
  rename_i ho
  cases h
  have hf := fDo_f hs hl hm hd ho
  obtain ⟨pf, tq, tv, cs, li, c0, c1⟩ := hf
  have ho' := (overB_no ho).2
  have hsum := summed_f hs hm hn pf tq tv c0 c1 li.nonneg.1 ho' c.seq cs
  refine ⟨hsum.1, hsum.2, ?_⟩
  have e1 := hsum.1.tq; have e2 := hsum.1.tv
  simp only at e1 e2
  rw [e1, e2]
  exact li
end Go.SL

namespace Go.SL
open Go
def stepM (k : Int) (s : Sk) (m : Mv) : Except Int (Sk × Co) :=
  if k = 1 then fStep s m else if k = 2 then aStep s m else if k = 3 then sStep s m else if k = 4 then lStep s m else .error 10
theorem stepM_2 {k : Int} {s : Sk} {m : Mv} (h : k = 2) : stepM k s m = aStep s m := by unfold stepM; rw [if_neg (by omega), if_pos h]
theorem stepM_3 {k : Int} {s : Sk} {m : Mv} (h : k = 3) : stepM k s m = sStep s m := by unfold stepM; rw [if_neg (by omega), if_neg (by omega), if_pos h]
theorem stepM_4 {k : Int} {s : Sk} {m : Mv} (h : k = 4) : stepM k s m = lStep s m := by unfold stepM; rw [if_neg (by omega), if_neg (by omega), if_neg (by omega), if_pos h]
def startE (k p : Int) : Int := if k < 1 ∨ 4 < k then 10 else if p < 0 ∨ 1000000000000 < p then 3 else 0
def sk0 : Sk := ⟨0, 0, 0, [], []⟩
def start0 (k p : Int) : Sk := if startE k p = 0 ∧ k = 3 then ⟨0, 0, p, [], []⟩ else sk0
theorem Sk.ok.mono {N M : Nat} {s : Sk} (h : s.ok N) (hm : N ≤ M) : s.ok M := ⟨Nat.le_trans h.nl hm, Nat.le_trans h.np hm, h.ly, h.pa, h.q, h.v, h.pr⟩
def runL {σ α ο : Type} (f : σ → α → Except Int (σ × ο)) : σ → List α → Except (Nat × Int) (σ × List ο)
  | s, [] => .ok (s, [])
  | s, m :: ms => match f s m with
    | .error e => .error (0, e)
    | .ok (t, c) => match runL f t ms with
      | .error (i, e) => .error (i + 1, e)
      | .ok (u, cs) => .ok (u, c :: cs)
theorem runL_app {σ α ο : Type} {f : σ → α → Except Int (σ × ο)} : ∀ (ms ns : List α) (s : σ), runL f s (ms ++ ns) = (match runL f s ms with
    | .error x => .error x
    | .ok (t, cs) => match runL f t ns with | .error (i, e) => .error (ms.length + i, e) | .ok (u, ds) => .ok (u, cs ++ ds))
  | [], ns, s => by
    simp only [List.nil_append, runL, List.length_nil, Nat.zero_add]
    rcases runL f s ns with ⟨i, e⟩ | ⟨u, ds⟩ <;> rfl
  | m :: ms, ns, s => by
    simp only [List.cons_append, runL]
    rcases f s m with e | ⟨t, c⟩
    · rfl
    · simp only [runL_app ms ns t]
      rcases runL f t ms with ⟨i, e⟩ | ⟨u, cs⟩
      · rfl
      · simp only
        rcases runL f u ns with ⟨j, e⟩ | ⟨v, ds⟩
        · simp only [List.length_cons]; congr 2; omega
        · rfl
theorem take_succ_get {α : Type} {xs : List α} {i : Nat} {x : α} (h : xs[i]? = some x) : xs.take (i + 1) = xs.take i ++ [x] := by
  rw [List.take_add_one, h]; rfl
theorem runL_snoc {σ α ο : Type} {f : σ → α → Except Int (σ × ο)} {s u t : σ} {ms : List α} {cs : List ο} {i : Nat} {m : α} {c : ο} (h : runL f s (ms.take i) = .ok (u, cs)) (hx : ms[i]? = some m) (hf : f u m = .ok (t, c)) : runL f s (ms.take (i + 1)) = .ok (t, cs ++ [c]) := by
  rw [take_succ_get hx, runL_app, h]; simp only [runL, hf]
theorem runL_len {σ α ο : Type} {f : σ → α → Except Int (σ × ο)} : ∀ {ms : List α} {s u : σ} {cs : List ο}, runL f s ms = .ok (u, cs) → cs.length = ms.length
  | [], s, u, cs, h => by cases h; rfl
  | m :: ms, s, u, cs, h => by
    unfold runL at h
    split at h
    · cases h
    split at h
    · cases h
    rename_i hr; cases h
    simp [runL_len hr]
theorem Rd.mv {R : HP} {b o i : Nat} {ms : List Mv} {m : Mv} (hrd : Rd R ⟨b, o, none⟩ (ms.flatMap Mv.c)) (hx : ms[i]? = some m) (j : Nat) (v : Value) (hv : m.c[j]? = some v) : Rd R ⟨b, o + i * 8 + j, none⟩ [v] := (Rd.elem (k := 8) (fun _ => rfl) hrd hx).fld hv
theorem Rd.co {R : HP} {b o i : Nat} {cs : List Co} {c : Co} (hrd : Rd R ⟨b, o, none⟩ (cs.flatMap Co.c)) (hx : cs[i]? = some c) (j : Nat) (v : Value) (hv : c.c[j]? = some v) : Rd R ⟨b, o + i * 4 + j, none⟩ [v] := (Rd.elem (k := 4) (fun _ => rfl) hrd hx).fld hv
def Iv (n : Int) : List Value := [I n]
theorem Iv.one (n : Int) : ∀ v ∈ Iv n, Value.oneCell' v = true := by simp [Iv, Value.oneCell']
end Go.SL

namespace Go.SL
open Go
end Go.SL

namespace Go.SL
open Go
theorem neg_W {v : Int} (h : -9223372036854775807 ≤ v ∧ v ≤ 9223372036854775807) : W (0 - v) = -v := by rw [W_in ⟨by omega, by omega⟩]; omega
theorem aDo_f {s t : Sk} {m : Mv} {c : Co} (hs : SG s) (hv : 0 ≤ s.value) (hm : MG m) (h : aDo s m = .ok (t, c)) :
    PF s t m c ∧ t.qty = s.qty ∧ t.value = s.value ∧ c.seq = m.seq ∧ 0 ≤ s.qty + c.qty ∧ 0 ≤ s.value + c.value ∧ -2000000000000000 ≤ c.value ∧ c.value ≤ 2000000000000000 := by
  obtain ⟨q0, q1, v0, v1, ps⟩ := hs
  have mk := hm.k; have mq := hm.q; have mc := hm.c
  unfold aDo at h
  split at h
  · rename_i hk
    have hq := mq.2 (.inl hk)
    unfold aRecv at h; cases h
    refine ⟨⟨?_, ?_, ?_, ?_, ?_, fun _ => rfl, ?_, ?_, ?_, ?_⟩, rfl, rfl, rfl, ?_, ?_, ?_, ?_⟩ <;> (try simp only) <;> (try omega)
  split at h
  · rename_i hk1 hk
    have hq := mq.2 (.inr (.inl hk))
    unfold aIssue at h
    split at h
    · cases h
    · rename_i hlt
      cases h
      have hp := partN_le (v := s.value) (q := m.qty) (n := s.qty) hv (by omega) (by omega) (by omega) (by omega) (by omega)
      have hw : W (0 - m.qty) = -m.qty := neg_W ⟨by omega, by omega⟩
      have hw2 : W (0 - avgV s m) = -avgV s m := neg_W (by unfold avgV; omega)
      have hav : 0 ≤ avgV s m ∧ avgV s m ≤ s.value := hp
      rw [hw, hw2]
      refine ⟨⟨?_, ?_, ?_, ?_, ?_, ?_, fun _ => ?_, ?_, ?_, ?_⟩, rfl, rfl, rfl, ?_, ?_, ?_, ?_⟩ <;> (try simp only) <;> (try omega)
      · exact fun _ => ⟨trivial, by omega, by omega⟩
      · rw [Int.neg_neg]
  split at h
  · rename_i hk1 hk2 hk
    have hq := mq.2 (.inr (.inr (.inl hk)))
    unfold aBack at h
    split at h
    · cases h
    · rename_i i p hr
      cases h
      have hr' := refd_one (by decide) hr
      have hp := ps.all p (List.mem_of_getElem? hr'.1)
      have hb := back_good hp hq.1 hr'.2.2.2
      have hpv := hp.v1; have hpw := hp.w0
      refine ⟨⟨?_, ?_, ?_, ?_, ?_, ?_, ?_, fun _ => ⟨i, p, hr'.1, hr'.2.1, hr'.2.2.1, rfl, ?_, hr'.2.2.2⟩, ?_, ?_⟩, rfl, rfl, rfl, ?_, ?_, ?_, ?_⟩ <;> (try simp only) <;> (try omega)
  split at h
  · rename_i hk1 hk2 hk3 hk
    have hq := mq.2 (.inr (.inr (.inr hk)))
    unfold aSend at h
    split at h
    · cases h
    · rename_i i p hr
      split at h
      · cases h
      · rename_i hlt
        cases h
        have hr' := refd_one (by decide) hr
        have hp := partN_le (v := s.value) (q := m.qty) (n := s.qty) hv (by omega) (by omega) (by omega) (by omega) (by omega)
        have hav : 0 ≤ avgV s m ∧ avgV s m ≤ s.value := hp
        have hw : W (0 - m.qty) = -m.qty := neg_W ⟨by omega, by omega⟩
        have hw2 : W (0 - avgV s m) = -avgV s m := neg_W ⟨by omega, by omega⟩
        have hw3 : W (avgV s m - m.cost) = avgV s m - m.cost := wn ⟨by omega, by omega⟩ ⟨by omega, by omega⟩
        rw [hw, hw2, hw3]
        refine ⟨⟨?_, ?_, ?_, ?_, ?_, ?_, ?_, ?_, fun _ => ⟨i, p, hr'.1, hr'.2.1, hr'.2.2.1, rfl, hr'.2.2.2⟩, ?_⟩, rfl, rfl, rfl, ?_, ?_, ?_, ?_⟩ <;> (try simp only) <;> (try omega)
  split at h
  · rename_i hk1 hk2 hk3 hk4 hk
    have hq := mq.1 (.inl hk)
    unfold aLand at h
    split at h
    · cases h
    · rename_i i p hr
      cases h
      have hr' := refd_one (by decide) hr
      have hp := ps.all p (List.mem_of_getElem? hr'.1)
      have h1 := hp.q1; have h2 := hp.q2
      have hpl : 0 ≤ landV s p m ∧ landV s p m ≤ m.cost := partN_le mc.1 (by omega) (by split <;> omega) (by split <;> omega) h2 h1
      have hw : W (m.cost - landV s p m) = m.cost - landV s p m := wn ⟨by omega, by omega⟩ ⟨by omega, by omega⟩
      rw [hw]
      refine ⟨⟨?_, ?_, ?_, ?_, ?_, ?_, ?_, ?_, ?_, fun _ => rfl⟩, rfl, rfl, rfl, ?_, ?_, ?_, ?_⟩ <;> (try simp only) <;> (try omega)
  · cases h
theorem aStep_f {s t : Sk} {m : Mv} {c : Co} (hs : SG s) (hv : 0 ≤ s.value) (h : aStep s m = .ok (t, c)) : SF s t m c ∧ SG t ∧ 0 ≤ t.value := by
  unfold aStep at h
  split at h
  · cases h
  rename_i h1
  have hm := MG.of (Decidable.not_not.1 h1)
  split at h
  · cases h
  rename_i h2
  have hn := seqNew_of_none h2
  split at h
  · cases h
  rename_i t' c' hd
  split at h
  · cases h
  rename_i ho
  cases h
  obtain ⟨pf, tq, tv, cs, hq, hv', c0, c1⟩ := aDo_f hs hv hm hd
  unfold aOver at ho
  simp only [Bool.or_eq_true, not_or] at ho
  have ho1 := of_decide_eq_false (Bool.eq_false_iff.2 ho.1.1)
  have hsum := summed_f hs hm hn pf tq tv c0 c1 hq ⟨by omega, largeB_no ho.1.2, largeB_no ho.2⟩ c.seq cs
  have e2 := hsum.1.tv
  simp only at e2
  exact ⟨hsum.1, hsum.2, by rw [e2]; exact hv'⟩
theorem addLot_good {ls : List Ly} {lot : ByteArray} {q v : Int} (h : LGs ls) (hq : sumBy Ly.qty ls ≤ 1000000000) (hv : sumBy Ly.value ls ≤ 1000000000000000) (q0 : 0 ≤ q) (q1 : q ≤ 1000000000) (v0 : 0 ≤ v) (v1 : v ≤ 2000000000000000) (hn : lotF lot ls = none → 1 ≤ q) :
    LGs (addLot ls lot q v) ∧ sumBy Ly.qty (addLot ls lot q v) = sumBy Ly.qty ls + q ∧ sumBy Ly.value (addLot ls lot q v) = sumBy Ly.value ls + v := by
  unfold addLot
  split
  · rename_i i l hf
    have hx := (lotF_some hf).1
    have hl := h l (List.mem_of_getElem? hx)
    have hlq := sumBy_le h.q hx; have hlv := sumBy_le h.v hx
    have hl1 := hl.1; have hl2 := hl.2
    have e : bump l q v = { l with qty := l.qty + q, value := l.value + v } := by unfold bump; rw [W_in (show i64 (l.qty + q) from ⟨by omega, by omega⟩), W_in (show i64 (l.value + v) from ⟨by omega, by omega⟩)]
    rw [e]
    refine ⟨fun x hx' => ?_, ?_, ?_⟩
    · rcases mem_set hx' with rfl | hx'
      · exact ⟨by simp only; omega, by simp only; omega⟩
      · exact h x hx'
    · rw [sumBy_set _ _ _ _ _ hx]; simp only; omega
    · rw [sumBy_set _ _ _ _ _ hx]; simp only; omega
  · rename_i hf
    have hq1 := hn hf
    have e : bump (newLy lot) q v = ⟨0, lot, q, v⟩ := by unfold bump newLy; simp only [Int.zero_add]; rw [W_in (show i64 q from ⟨by omega, by omega⟩), W_in (show i64 v from ⟨by omega, by omega⟩)]
    rw [e]
    refine ⟨fun x hx' => ?_, sumBy_ins _ _ _ _, sumBy_ins _ _ _ _⟩
    rcases insL_mem hx' with rfl | hx'
    · exact ⟨hq1, v0⟩
    · exact h x hx'
theorem qtyLot_pos {ls : List Ly} {lot : ByteArray} (h : LGs ls) : 0 ≤ qtyLot ls lot ∧ (lotF lot ls = none → qtyLot ls lot = 0) := by
  unfold qtyLot
  split
  · rename_i hf; have := (h _ (List.mem_of_getElem? (lotF_some hf).1)).1; exact ⟨by omega, fun e => by rw [e] at hf; cases hf⟩
  · exact ⟨Int.le_refl _, fun _ => rfl⟩
theorem lDo_f {s t : Sk} {m : Mv} {c : Co} (hs : SG s) (hl : LI s.layers s.qty s.value) (hm : MG m) (h : lDo s m = .ok (t, c)) :
    PF s t m c ∧ t.qty = s.qty ∧ t.value = s.value ∧ LI t.layers (s.qty + c.qty) (s.value + c.value) ∧ -2000000000000000 ≤ c.value ∧ c.value ≤ 2000000000000000 := by
  obtain ⟨q0, q1, v0, v1, ps⟩ := hs
  obtain ⟨lg, lq, lv⟩ := hl
  have mk := hm.k; have mq := hm.q; have mc := hm.c
  unfold lDo at h
  split at h
  · rename_i hk
    have hq := mq.2 (.inl hk)
    unfold lRecv at h
    split at h
    · cases h
    cases h
    have ha := addLot_good (lot := m.lot) (q := m.qty) (v := m.cost) lg (by omega) (by omega) (by omega) hq.2 mc.1 (by omega) (fun _ => hq.1)
    refine ⟨⟨?_, ?_, ?_, ?_, ?_, fun _ => rfl, ?_, ?_, ?_, ?_⟩, rfl, rfl, ⟨ha.1, ?_, ?_⟩, ?_, ?_⟩ <;> (try simp only) <;> (try omega)
  split at h
  · rename_i hk1 hk
    have hq := mq.2 (.inr (.inl hk))
    unfold lIssue at h
    split at h
    · cases h
    rename_i i l hf
    split at h
    · cases h
    split at h
    · cases h
    rename_i hlt
    cases h
    have ht := takeL_good lg (lotF_some hf).1 hq.1 (by omega) (by omega) (by omega)
    have hw : W (0 - m.qty) = -m.qty := neg_W ⟨by omega, by omega⟩
    have hw2 : W (0 - takeV l m.qty) = -takeV l m.qty := neg_W ⟨by omega, by omega⟩
    rw [hw, hw2]
    refine ⟨⟨?_, ?_, ?_, ?_, ?_, ?_, fun _ => ?_, ?_, ?_, ?_⟩, rfl, rfl, ⟨ht.1, ?_, ?_⟩, ?_, ?_⟩ <;> (try simp only) <;> (try omega)
    · exact fun _ => ⟨trivial, by omega, by omega⟩
    · rw [Int.neg_neg]
  split at h
  · rename_i hk1 hk2 hk
    have hq := mq.2 (.inr (.inr (.inl hk)))
    unfold lBack lRef at h
    split at h
    · cases h
    rename_i i p hr
    unfold lBackR at h
    cases h
    have hr' := refd_one (by decide) hr
    have hp := ps.all p (List.mem_of_getElem? hr'.1)
    have hb := back_good hp hq.1 hr'.2.2.2
    have hpv := hp.v1; have hpw := hp.w0
    have ha := addLot_good (lot := p.lot) (q := m.qty) (v := backV p m) lg (by omega) (by omega) (by omega) hq.2 hb.2.2.2.1 (by omega) (fun _ => hq.1)
    refine ⟨⟨?_, ?_, ?_, ?_, ?_, ?_, ?_, fun _ => ⟨i, p, hr'.1, hr'.2.1, hr'.2.2.1, rfl, ?_, hr'.2.2.2⟩, ?_, ?_⟩, rfl, rfl, ⟨ha.1, ?_, ?_⟩, ?_, ?_⟩ <;> (try simp only) <;> (try omega)
  split at h
  · rename_i hk1 hk2 hk3 hk
    have hq := mq.2 (.inr (.inr (.inr hk)))
    unfold lSend lRef at h
    split at h
    · cases h
    rename_i i p hr
    unfold lSendR at h
    split at h
    · cases h
    rename_i j l hf
    split at h
    · cases h
    rename_i hlt
    cases h
    have hr' := refd_one (by decide) hr
    have ht := takeL_good lg (lotF_some hf).1 hq.1 (by omega) (by omega) (by omega)
    have hw : W (0 - m.qty) = -m.qty := neg_W ⟨by omega, by omega⟩
    have hw2 : W (0 - takeV l m.qty) = -takeV l m.qty := neg_W ⟨by omega, by omega⟩
    have hw3 : W (takeV l m.qty - m.cost) = takeV l m.qty - m.cost := wn ⟨by omega, by omega⟩ ⟨by omega, by omega⟩
    rw [hw, hw2, hw3]
    refine ⟨⟨?_, ?_, ?_, ?_, ?_, ?_, ?_, ?_, fun _ => ⟨i, p, hr'.1, hr'.2.1, hr'.2.2.1, rfl, hr'.2.2.2⟩, ?_⟩, rfl, rfl, ⟨ht.1, ?_, ?_⟩, ?_, ?_⟩ <;> (try simp only) <;> (try omega)
  split at h
  · rename_i hk1 hk2 hk3 hk4 hk
    have hq := mq.1 (.inl hk)
    unfold lLand lRef at h
    split at h
    · cases h
    rename_i i p hr
    have hr' := refd_one (by decide) hr
    have hp := ps.all p (List.mem_of_getElem? hr'.1)
    have h1 := hp.q1; have h2 := hp.q2
    unfold lLandR at h
    split at h
    · cases h
      refine ⟨⟨?_, ?_, ?_, ?_, ?_, ?_, ?_, ?_, ?_, fun _ => rfl⟩, rfl, rfl, ⟨lg, ?_, ?_⟩, ?_, ?_⟩ <;> (try simp only) <;> (try omega)
    · rename_i hz
      cases h
      have hqp := qtyLot_pos (lot := p.lot) lg
      have hlq : 0 ≤ lotQ s p ∧ lotQ s p ≤ p.qty := by unfold lotQ; split <;> omega
      have hpl := partN_le (v := m.cost) (q := lotQ s p) (n := p.qty) mc.1 (by omega) hlq.1 hlq.2 h2 h1
      have hne : lotF p.lot s.layers = none → (1 : Int) ≤ 0 := fun e => by
        exfalso; apply hz; unfold lotQ; rw [hqp.2 e, if_pos (by omega)]
      have ha := addLot_good (lot := p.lot) (q := 0) (v := partN m.cost (lotQ s p) p.qty) lg (by omega) (by omega) (Int.le_refl _) (by decide) hpl.1 (by omega) hne
      have hw : W (m.cost - partN m.cost (lotQ s p) p.qty) = m.cost - partN m.cost (lotQ s p) p.qty := wn ⟨by omega, by omega⟩ ⟨by omega, by omega⟩
      rw [hw]
      refine ⟨⟨?_, ?_, ?_, ?_, ?_, ?_, ?_, ?_, ?_, fun _ => rfl⟩, rfl, rfl, ⟨ha.1, ?_, ?_⟩, ?_, ?_⟩ <;> (try simp only) <;> (try omega)
  · cases h
theorem lStep_f {s t : Sk} {m : Mv} {c : Co} (hs : SG s) (hl : LI s.layers s.qty s.value) (h : lStep s m = .ok (t, c)) : SF s t m c ∧ SG t ∧ LI t.layers t.qty t.value := by
  unfold lStep at h
  split at h
  · cases h
  rename_i h1
  have hm := MG.of (Decidable.not_not.1 h1)
  split at h
  · cases h
  rename_i h2
  have hn := seqNew_of_none h2
  split at h
  · cases h
  rename_i t' c' hd
  split at h
  · cases h
  rename_i ho
  cases h
  obtain ⟨pf, tq, tv, li, c0, c1⟩ := lDo_f hs hl hm hd
  have ho' := (overB_no ho).2
  have hsum := summed_f hs hm hn pf tq tv c0 c1 li.nonneg.1 ho' m.seq rfl
  refine ⟨hsum.1, hsum.2, ?_⟩
  have e1 := hsum.1.tq; have e2 := hsum.1.tv
  simp only at e1 e2
  rw [e1, e2]
  exact li
theorem priceV_of {m : Mv} {p : Int} (h : ¬ priceE m p ≠ 0) : priceV m p = m.qty * p ∧ i64 (priceV m p) := by
  refine ⟨?_, priceV_i64⟩
  unfold priceE at h
  split at h
  · rename_i hk
    unfold priceV; rw [if_pos hk]
    unfold mulOk at hk; unfold mulN
    rw [if_pos (of_decide_eq_true hk)]
  · exact absurd (by decide) h
theorem sDo_f {s t : Sk} {m : Mv} {c : Co} (hs : SG s) (hp : 0 ≤ s.price ∧ s.price ≤ 1000000000000) (hm : MG m) (h : sDo s m ⟨0, 0, 0, 0⟩ = .ok (t, c)) (hv : -1000000000000000 ≤ s.value + c.value ∧ s.value + c.value ≤ 1000000000000000) :
    PF s t m c ∧ 0 ≤ s.qty + c.qty ∧ (0 ≤ t.price ∧ t.price ≤ 1000000000000) := by
  obtain ⟨q0, q1, v0, v1, ps⟩ := hs
  have mk := hm.k; have mq := hm.q; have mc := hm.c
  unfold sDo at h
  split at h
  · rename_i hk
    have hq := mq.2 (.inl hk)
    unfold sRecv at h
    split at h
    · cases h
    rename_i he
    cases h
    obtain ⟨e1, e2⟩ := priceV_of he
    have e3 : 0 ≤ priceV m s.price := by rw [e1]; exact Int.mul_nonneg (by omega) hp.1
    have hw : W (m.cost - priceV m s.price) = m.cost - priceV m s.price := W_in ⟨by omega, by omega⟩
    rw [hw]
    refine ⟨⟨?_, ?_, ?_, ?_, ?_, fun _ => rfl, ?_, ?_, ?_, ?_⟩, ?_, hp⟩ <;> (try simp only) <;> (try omega)
  split at h
  · rename_i hk1 hk
    have hq := mq.2 (.inr (.inl hk))
    unfold sIssue at h
    split at h
    · cases h
    split at h
    · cases h
    rename_i hlt he
    cases h
    obtain ⟨e1, e2⟩ := priceV_of he
    have e3 : 0 ≤ priceV m s.price := by rw [e1]; exact Int.mul_nonneg (by omega) hp.1
    have hw : W (0 - m.qty) = -m.qty := neg_W ⟨by omega, by omega⟩
    have hw2 : W (0 - priceV m s.price) = -priceV m s.price := neg_W ⟨by omega, by omega⟩
    rw [hw2] at hv
    rw [hw, hw2]
    simp only at hv
    refine ⟨⟨?_, ?_, ?_, ?_, ?_, ?_, fun _ => ?_, ?_, ?_, ?_⟩, ?_, hp⟩ <;> (try simp only) <;> (try omega)
    · exact fun _ => ⟨trivial, by omega, by omega⟩
    · rw [Int.neg_neg]
  split at h
  · rename_i hk1 hk2 hk
    have hq := mq.2 (.inr (.inr (.inl hk)))
    unfold sCust at h
    split at h
    · cases h
    rename_i i p hr
    split at h
    · cases h
    rename_i he
    cases h
    obtain ⟨e1, e2⟩ := priceV_of he
    have e3 : 0 ≤ priceV m s.price := by rw [e1]; exact Int.mul_nonneg (by omega) hp.1
    have hr' := refd_one (by decide) hr
    have hpp := ps.all p (List.mem_of_getElem? hr'.1)
    have hb := back_good hpp hq.1 hr'.2.2.2
    have hpv := hpp.v1; have hpw := hpp.w0
    have hw : W (backV p m - priceV m s.price) = backV p m - priceV m s.price := W_in ⟨by omega, by omega⟩
    rw [hw]
    refine ⟨⟨?_, ?_, ?_, ?_, ?_, ?_, ?_, fun _ => ⟨i, p, hr'.1, hr'.2.1, hr'.2.2.1, rfl, ?_, hr'.2.2.2⟩, ?_, ?_⟩, ?_, hp⟩ <;> (try simp only) <;> (try omega)
  split at h
  · rename_i hk1 hk2 hk3 hk
    have hq := mq.2 (.inr (.inr (.inr hk)))
    unfold sSupp at h
    split at h
    · cases h
    rename_i i p hr
    split at h
    · cases h
    split at h
    · cases h
    rename_i hlt he
    cases h
    obtain ⟨e1, e2⟩ := priceV_of he
    have e3 : 0 ≤ priceV m s.price := by rw [e1]; exact Int.mul_nonneg (by omega) hp.1
    have hr' := refd_one (by decide) hr
    have hw : W (0 - m.qty) = -m.qty := neg_W ⟨by omega, by omega⟩
    have hw2 : W (0 - priceV m s.price) = -priceV m s.price := neg_W ⟨by omega, by omega⟩
    have hw3 : W (priceV m s.price - m.cost) = priceV m s.price - m.cost := W_in ⟨by omega, by omega⟩
    rw [hw, hw2, hw3]
    refine ⟨⟨?_, ?_, ?_, ?_, ?_, ?_, ?_, ?_, fun _ => ⟨i, p, hr'.1, hr'.2.1, hr'.2.2.1, rfl, hr'.2.2.2⟩, ?_⟩, ?_, hp⟩ <;> (try simp only) <;> (try omega)
  split at h
  · rename_i hk1 hk2 hk3 hk4 hk
    have hq := mq.1 (.inl hk)
    unfold sLand at h
    split at h
    · cases h
    cases h
    refine ⟨⟨?_, ?_, ?_, ?_, ?_, ?_, ?_, ?_, ?_, fun _ => rfl⟩, ?_, hp⟩ <;> (try simp only) <;> (try omega)
  · rename_i hk1 hk2 hk3 hk4 hk5
    have hk : m.kind = 6 := by omega
    unfold sRepr at h
    split at h
    · cases h
    rename_i ho
    cases h
    simp only [Bool.or_eq_true, not_or, Bool.not_eq_true', Bool.not_eq_false] at ho
    have hw := withinB_yes ho.2
    have hw2 : W (0 - reprV s m) = -reprV s m := neg_W ⟨by omega, by omega⟩
    rw [hw2]
    refine ⟨⟨?_, ?_, ?_, ?_, ?_, ?_, ?_, ?_, ?_, fun _ => rfl⟩, ?_, mc⟩ <;> (try simp only) <;> (try omega)
theorem sStep_f {s t : Sk} {m : Mv} {c : Co} (hs : SG s) (hp : 0 ≤ s.price ∧ s.price ≤ 1000000000000) (h : sStep s m = .ok (t, c)) : SF s t m c ∧ SG t ∧ (0 ≤ t.price ∧ t.price ≤ 1000000000000) := by
  unfold sStep at h
  split at h
  · cases h
  rename_i h1
  have hm := MG.of (Decidable.not_not.1 h1)
  split at h
  · cases h
  rename_i h2
  have hn := seqNew_of_two hs.ps.all h2
  split at h
  · cases h
  rename_i t' c' hd
  split at h
  · cases h
  rename_i ho
  cases h
  unfold sOver at ho
  simp only [Bool.or_eq_true, not_or, Bool.not_eq_true', Bool.not_eq_false] at ho
  obtain ⟨⟨⟨a1, a2⟩, a3⟩, a4⟩ := ho
  have e1 : addN s.value c'.value = s.value + c'.value := by
    unfold addOk at a1
    unfold addN; exact if_pos (of_decide_eq_true a1)
  rw [e1] at a3
  have b3 := withinB_yes a3
  have b4 := withinB_yes a4
  obtain ⟨pf, hq, hp'⟩ := sDo_f hs hp hm hd b3
  have hcq := pf.cqb hm
  have e2 : W (s.qty + c'.qty) = s.qty + c'.qty := wq ⟨by have := hs.q0; omega, by have := hs.q1; omega⟩ ⟨by omega, by omega⟩
  have b2 := of_decide_eq_false (Bool.eq_false_iff.2 a2)
  rw [e2] at b2
  have e3 : sSum s t' c' = { t' with qty := s.qty + c'.qty, value := s.value + c'.value } := by unfold sSum; rw [e1, e2]
  rw [e3]
  exact ⟨⟨hm, hn, rfl, rfl, rfl, b4.1, b4.2, pf.reseq _ _ _⟩, ⟨hq, by simp only; omega, b3.1, b3.2, pf.past hm hn hs.ps⟩, hp'⟩
structure Inv (k : Int) (s : Sk) : Prop where
  sg : SG s
  li : k = 1 ∨ k = 4 → LI s.layers s.qty s.value
  av : k = 2 → 0 ≤ s.value
  pr : k = 3 → 0 ≤ s.price ∧ s.price ≤ 1000000000000
theorem stepM_f {k : Int} {s t : Sk} {m : Mv} {c : Co} (hi : Inv k s) (h : stepM k s m = .ok (t, c)) : SF s t m c ∧ Inv k t := by
  unfold stepM at h
  split at h
  · rename_i hk; have := fStep_f hi.sg (hi.li (.inl hk)) h; exact ⟨this.1, this.2.1, fun _ => this.2.2, fun e => by omega, fun e => by omega⟩
  split at h
  · rename_i hk1 hk; have := aStep_f hi.sg (hi.av hk) h; exact ⟨this.1, this.2.1, fun e => by omega, fun _ => this.2.2, fun e => by omega⟩
  split at h
  · rename_i hk1 hk2 hk; have := sStep_f hi.sg (hi.pr hk) h; exact ⟨this.1, this.2.1, fun e => by omega, fun e => by omega, fun _ => this.2.2⟩
  split at h
  · rename_i hk1 hk2 hk3 hk; have := lStep_f hi.sg (hi.li (.inr hk)) h; exact ⟨this.1, this.2.1, fun _ => this.2.2, fun e => by omega, fun e => by omega⟩
  · cases h
end Go.SL

namespace Go.SL
open Go
theorem SF.vb {k : Int} {s t : Sk} {m : Mv} {c : Co} (hs : Inv k s) (ht : Inv k t) (h : SF s t m c) : -2000000000000000 ≤ c.value ∧ c.value ≤ 2000000000000000 := by
  have := h.tv; have := hs.sg.v0; have := hs.sg.v1; have := ht.sg.v0; have := ht.sg.v1; omega
structure EachOk (m : Mv) (c : Co) : Prop where
  k15 : m.kind = 1 ∨ m.kind = 5 → W (c.value + c.var) = m.cost
  k4 : m.kind = 4 → W (c.value + c.var) = W (0 - m.cost)
  k6 : m.kind = 6 → W (c.value + c.var) = 0
  k2 : m.kind = 2 → c.var = 0 ∧ c.value ≤ 0
theorem runL_take_ok {σ α ο : Type} {f : σ → α → Except Int (σ × ο)} {s t : σ} {ms : List α} {cs : List ο} {n : Nat} (h : runL f s ms = .ok (t, cs)) (hn : n ≤ ms.length) : ∃ u, runL f s (ms.take n) = .ok (u, cs.take n) := by
  have hl := runL_len h
  rw [← List.take_append_drop n ms, runL_app] at h
  split at h
  · cases h
  rename_i u ds h1
  split at h
  · cases h
  rename_i v es h2
  cases h
  have hd := runL_len h1
  rw [List.length_take, Nat.min_eq_left hn] at hd
  refine ⟨u, ?_⟩
  rw [h1, List.take_left' hd]
end Go.SL

namespace Go.SL
open Go
theorem RdS.take {α : Type} {enc : α → List Value} {R : HP} {oa : Option Addr} {xs : List α} (h : RdS R oa (xs.flatMap enc)) (n : Nat) : RdS R oa ((xs.take n).flatMap enc) := fun hp hr => by
  have e : xs.flatMap enc = (xs.take n).flatMap enc ++ (xs.drop n).flatMap enc := by rw [← List.flatMap_append, List.take_append_drop]
  rcases h hp hr with h | ⟨b, o, e1, c, t, fr, hb, hc⟩
  · left; rw [e] at h; exact (List.append_eq_nil_iff.1 h).1
  · refine .inr ⟨b, o, e1, c, t, fr, hb, fun j v hj => hc j v ?_⟩
    rw [e, List.getElem?_append_left (List.getElem?_eq_some_iff.1 hj).1]; exact hj
structure Kept (p p' : Pa) : Prop where
  seq : p'.seq = p.seq
  kind : p'.kind = p.kind
  qty : p'.qty = p.qty
  value : p'.value = p.value
structure RetOk (q v qty value : Int) : Prop where
  w : W (0 - value) = -value
  fv : v ≤ -value
  fq : q ≤ qty
  full : q = qty → v = -value
end Go.SL

namespace Go.SL
open Go
def Mv.rQty (m : Mv) : Bool := if inB m.kind 1 4 = true then inB m.qty 1 1000000000 else decide (m.qty = 0)
theorem Rd.pa {R : HP} {b o i : Nat} {ps : List Pa} {p : Pa} (hrd : Rd R ⟨b, o, none⟩ (ps.flatMap Pa.c)) (hx : ps[i]? = some p) (j : Nat) (v : Value) (hv : p.c[j]? = some v) : Rd R ⟨b, o + i * 7 + j, none⟩ [v] := (Rd.elem (k := 7) (fun _ => rfl) hrd hx).fld hv
theorem Rd.ly {R : HP} {b o i : Nat} {ls : List Ly} {l : Ly} (hrd : Rd R ⟨b, o, none⟩ (ls.flatMap Ly.c)) (hx : ls[i]? = some l) (j : Nat) (v : Value) (hv : l.c[j]? = some v) : Rd R ⟨b, o + i * 4 + j, none⟩ [v] := (Rd.elem (k := 4) (fun _ => rfl) hrd hx).fld hv
def fitsB (s : Sk) (v : Int) : Bool := !(decide (1000000000 < s.qty) || decide (1000000000000000 < s.value) || decide (s.value < -1000000000000000) || decide (1000000000000000 < v) || decide (v < -1000000000000000)) && s.layers.all (fun l => !(decide (1000000000000000 < l.value) || decide (l.value < -1000000000000000)))
attribute [irreducible] Mv.rQty fitsB
end Go.SL

namespace Go.SL
open Go
def Pa.fine (p : Pa) : Prop := (p.kind = 1 ∨ p.kind = 2) ∧ 0 ≤ W (p.qty - p.used)
def Sk.fine (s : Sk) : Prop := ∀ (i : Nat) (p : Pa), s.past[i]? = some p → p.fine
theorem known_eq {s : Sk} {seq : Int} (h : s.fine) : ((findI (isPast 1 seq) s.past).isSome || (findI (isPast 2 seq) s.past).isSome) = (findI (isPast 0 seq) s.past).isSome := by
  rw [Bool.eq_iff_iff, Bool.or_eq_true]
  constructor
  · rintro (h1 | h1)
    all_goals
      obtain ⟨⟨i, p⟩, hf⟩ := Option.isSome_iff_exists.1 h1
      obtain ⟨hx, hp⟩ := findI_some hf
      refine findI_isSome (List.mem_of_getElem? hx) ?_
      rw [isPast_iff] at hp ⊢
      exact ⟨hp.1, .inl rfl⟩
  · intro h1
    obtain ⟨⟨i, p⟩, hf⟩ := Option.isSome_iff_exists.1 h1
    obtain ⟨hx, hp⟩ := findI_some hf
    rw [isPast_iff] at hp
    rcases (h i p hx).1 with hk | hk
    · left; exact findI_isSome (List.mem_of_getElem? hx) (isPast_iff.2 ⟨hp.1, .inr hk⟩)
    · right; exact findI_isSome (List.mem_of_getElem? hx) (isPast_iff.2 ⟨hp.1, .inr hk⟩)
end Go.SL

namespace Go.SL
open Go
theorem set_same {α : Type} : ∀ {xs : List α} {i : Nat} {x : α}, xs[i]? = some x → xs.set i x = xs
  | [], _, _, h => by simp at h
  | y :: ys, 0, x, h => by simp at h; subst h; rfl
  | y :: ys, i + 1, x, h => by rw [List.set_cons_succ, set_same (by simpa using h)]
def Got (r : Except Int (Sk × Co)) (t : Sk) (c : Co) : Prop := ∀ t2 c2, r = .ok (t2, c2) → t = t2 ∧ c = c2
theorem Got.ok {r : Except Int (Sk × Co)} {t : Sk} {c : Co} (h : r = .ok (t, c)) : Got r t c := fun t2 c2 h2 => by
  rw [h] at h2; cases h2; exact ⟨rfl, rfl⟩
theorem Got.err {r : Except Int (Sk × Co)} {t : Sk} {c : Co} {e : Int} (h : r = .error e) : Got r t c := fun t2 c2 h2 => by
  rw [h] at h2; cases h2
end Go.SL

namespace Go.SL
open Go
structure LInv (M c : Int) (i : Nat) (hi lo qh ql r : Int) : Prop where
  uh : u64 hi
  ul : u64 lo
  uqh : u64 qh
  uql : u64 ql
  r0 : 0 ≤ r
  rc : r < c
  st : ∃ T L : Int, 0 ≤ T ∧ T < 2 ^ i ∧ 0 ≤ L ∧ L < 2 ^ (128 - i) ∧ M = T * 2 ^ (128 - i) + L ∧ hi * 18446744073709551616 + lo = L * 2 ^ i ∧ T = (qh * 18446744073709551616 + ql) * c + r
theorem LInv.start {hi lo c : Int} (h1 : u64 hi) (h2 : u64 lo) (hc : 0 < c) : LInv (hi * 18446744073709551616 + lo) c 0 hi lo 0 0 0 :=
  ⟨h1, h2, by decide, by decide, by decide, hc, 0, hi * 18446744073709551616 + lo, by decide, by decide, by omega, by
    rw [show (2 : Int) ^ (128 - 0) = 340282366920938463463374607431768211456 from by decide]; omega, by omega, by simp, by simp⟩
theorem LInv.done {M c hi lo qh ql r : Int} (h : LInv M c 128 hi lo qh ql r) : qh = M / c / 18446744073709551616 ∧ ql = M / c % 18446744073709551616 ∧ r = M % c := by
  obtain ⟨u1, u2, u3, u4, r0, rc, T, L, t0, tw, l0, lp, hM, hN, hT⟩ := h
  simp only [Nat.sub_self, Int.pow_zero] at lp hM
  have hL : L = 0 := by omega
  subst hL
  have hc : 0 < c := by omega
  have hM' : M = T := by omega
  have := (Int.ediv_emod_unique (a := M) (b := c) (q := qh * 18446744073709551616 + ql) (r := r) hc).2 ⟨by rw [hM', hT, Int.mul_comm c]; omega, r0, rc⟩
  have hq := this.1
  refine ⟨?_, ?_, this.2.symm⟩
  · rw [hq]; omega
  · rw [hq]; omega
theorem LInv.step {M c hi lo qh ql r : Int} {i : Nat} (h : LInv M c i hi lo qh ql r) (hi128 : i < 128) (hcu : u64 c) :
    (9223372036854775808 ≤ r ∨ c ≤ (2 * r + hi / 9223372036854775808) % 18446744073709551616 → LInv M c (i + 1) (2 * hi % 18446744073709551616 + lo / 9223372036854775808) (2 * lo % 18446744073709551616) (2 * qh % 18446744073709551616 + ql / 9223372036854775808) (2 * ql % 18446744073709551616 + 1) (((2 * r + hi / 9223372036854775808) % 18446744073709551616 - c) % 18446744073709551616)) ∧
    (¬ 9223372036854775808 ≤ r ∧ ¬ c ≤ (2 * r + hi / 9223372036854775808) % 18446744073709551616 → LInv M c (i + 1) (2 * hi % 18446744073709551616 + lo / 9223372036854775808) (2 * lo % 18446744073709551616) (2 * qh % 18446744073709551616 + ql / 9223372036854775808) (2 * ql % 18446744073709551616) ((2 * r + hi / 9223372036854775808) % 18446744073709551616)) := by
  obtain ⟨u1, u2, u3, u4, r0, rc, T, L, t0, tw, l0, lp, hM, hN, hT⟩ := h
  have hc : 0 < c := by omega
  generalize hp : (2 : Int) ^ (128 - (i + 1)) = p at *
  have hp2 : (2 : Int) ^ (128 - i) = 2 * p := by rw [show 128 - i = (128 - (i + 1)) + 1 by omega, Int.pow_succ, hp]; omega
  have hpw : p * 2 ^ i = 170141183460469231731687303715884105728 := by
    rw [← hp, ← Int.pow_add, show 128 - (i + 1) + i = 127 by omega]; decide
  have hp0 : 0 < p := by rw [← hp]; exact pow_pos _
  have hw0 : (0 : Int) < 2 ^ i := pow_pos i
  have hw2 : (2 : Int) ^ (i + 1) = 2 * 2 ^ i := by rw [Int.pow_succ]; omega
  have hwle : (2 : Int) ^ i ≤ 170141183460469231731687303715884105728 := by
    have := le_mul_one (a := 2 ^ i) (b := p) (Int.le_of_lt hw0) hp0
    rw [Int.mul_comm, hpw] at this; exact this
  rw [hp2] at lp hM
  generalize (2 : Int) ^ i = w at *
  obtain ⟨b, hb⟩ : ∃ b, hi / 9223372036854775808 = b := ⟨_, rfl⟩
  have hb01 : b = 0 ∨ b = 1 := by omega
  -- the bit that goes by, and what is left behind it
  have hLb : 0 ≤ L - b * p ∧ L - b * p < p ∧ (L - b * p) * (2 * w) = (2 * hi % 18446744073709551616 + lo / 9223372036854775808) * 18446744073709551616 + 2 * lo % 18446744073709551616 := by
    have hlow : ∀ L' : Int, 0 ≤ L' → L' < p → 0 ≤ L' * w ∧ L' * w < 170141183460469231731687303715884105728 := fun L' h1 h2 =>
      ⟨Int.mul_nonneg h1 (Int.le_of_lt hw0), by rw [← hpw]; exact Int.mul_lt_mul_of_pos_right h2 hw0⟩
    by_cases hlt : L < p
    · have := hlow L l0 hlt
      have hb0 : b = 0 := by omega
      subst hb0
      have e : L * (2 * w) = 2 * (L * w) := by rw [Int.mul_left_comm]
      rw [Int.zero_mul, Int.sub_zero, e, ← hN]
      refine ⟨l0, hlt, ?_⟩; omega
    · have := hlow (L - p) (by omega) (by omega)
      have e0 : (L - p) * w = L * w - 170141183460469231731687303715884105728 := by rw [Int.sub_mul, hpw]
      rw [e0, ← hN] at this
      have hb1 : b = 1 := by omega
      subst hb1
      have e : (L - 1 * p) * (2 * w) = 2 * ((L - p) * w) := by rw [Int.one_mul, Int.mul_left_comm]
      rw [e, e0, ← hN]
      refine ⟨by omega, by omega, ?_⟩; omega
  have hM2 : M = (2 * T + b) * p + (L - b * p) := by
    rw [hM, Int.add_mul]
    have : T * (2 * p) = 2 * T * p := by rw [← Int.mul_assoc, Int.mul_comm T 2]
    rw [this]; omega
  have hQ : 0 ≤ qh * 18446744073709551616 + ql := by omega
  have hQT : qh * 18446744073709551616 + ql ≤ T := by
    have := le_mul_one hQ (show 1 ≤ c by omega)
    omega
  have h2T : 2 * T + b = 2 * ((qh * 18446744073709551616 + ql) * c) + (2 * r + b) := by omega
  have hqd : (2 * qh % 18446744073709551616 + ql / 9223372036854775808) * 18446744073709551616 + 2 * ql % 18446744073709551616 = 2 * (qh * 18446744073709551616 + ql) := by omega
  constructor
  · intro hge
    rw [hb] at hge ⊢
    have er : ((2 * r + b) % 18446744073709551616 - c) % 18446744073709551616 = 2 * r + b - c := by omega
    rw [er]
    refine ⟨by omega, by omega, by omega, by omega, by omega, by omega, 2 * T + b, L - b * p, by omega, by omega, hLb.1, by rw [hp]; exact hLb.2.1, by rw [hp]; exact hM2, by rw [hw2]; exact hLb.2.2.symm, ?_⟩
    have : (2 * qh % 18446744073709551616 + ql / 9223372036854775808) * 18446744073709551616 + (2 * ql % 18446744073709551616 + 1) = 2 * (qh * 18446744073709551616 + ql) + 1 := by omega
    rw [this, Int.add_mul, Int.mul_assoc, h2T]; omega
  · intro hlt
    rw [hb] at hlt ⊢
    have er : (2 * r + b) % 18446744073709551616 = 2 * r + b := by omega
    rw [er] at hlt ⊢
    refine ⟨by omega, by omega, by omega, by omega, by omega, by omega, 2 * T + b, L - b * p, by omega, by omega, hLb.1, by rw [hp]; exact hLb.2.1, by rw [hp]; exact hM2, by rw [hw2]; exact hLb.2.2.symm, ?_⟩
    rw [hqd, Int.mul_assoc, h2T]
theorem LInv.ret {M c hi lo qh ql r : Int} {i : Nat} (h : LInv M c i hi lo qh ql r) (hi128 : i = 128) : tup [U qh, U ql, U r] = .tuple ⟨[U (M / c / 18446744073709551616), U (M / c % 18446744073709551616), U (M % c)]⟩ := by
  subst hi128
  have := h.done
  rw [← this.1, ← this.2.1, ← this.2.2]; rfl
def nbB (a b c : Int) : Bool := (!decide ((!decide (decide (a < 0) = decide (b < 0))) = decide (c < 0)))
def valN (q p : Int) : Int := if mulOk q p = true then (if 1000000000000001 < mulN q p then 1000000000000001 else mulN q p) else 1000000000000001
attribute [irreducible] nbB valN
end Go.SL

namespace Go.SL
open Go
abbrev rsQ (s : Sk) (cq : Int) : Int := W (s.qty + cq)
abbrev rsV (s : Sk) (pr cq : Int) : Int := valN (rsQ s cq) pr
abbrev rsC (s : Sk) (pr cq : Int) : Int := W (rsV s pr cq - s.value)
def rsFin (s : Sk) (m : Mv) (pr cq : Int) (ps : Int → List Pa) (var : Int → Int) : Except Int (Sk × Co) :=
  if rsQ s cq < 0 then .error 21 else if 1000000000 < rsQ s cq ∨ withinB (rsV s pr cq) = false then .error 4 else
    if withinB (var (rsC s pr cq)) = false then .error 4 else
      .ok (⟨rsQ s cq, rsV s pr cq, pr, [], ps (rsC s pr cq)⟩, ⟨m.seq, cq, rsC s pr cq, var (rsC s pr cq)⟩)
def rsDo (s : Sk) (m : Mv) : Except Int (Sk × Co) :=
  if m.kind = 1 then rsFin s m s.price m.qty (fun _ => s.past ++ [(⟨m.seq, m.kind, m.lot, m.qty, m.cost, 0, 0⟩ : Pa)]) (fun cv => W (m.cost - cv))
  else if m.kind = 2 then rsFin s m s.price (W (0 - m.qty)) (fun cv => s.past ++ [(⟨m.seq, m.kind, m.lot, m.qty, W (0 - cv), 0, 0⟩ : Pa)]) (fun _ => 0)
  else if m.kind = 6 then rsFin s m m.cost 0 (fun _ => s.past) (fun cv => W (0 - cv))
  else match refd (if m.kind = 3 then 2 else 1) m s.past with
    | .error e => .error e
    | .ok (i, p) => if m.kind = 3 then rsFin s m s.price m.qty (fun _ => s.past.set i (backP p m)) (fun cv => W (backV p m - cv))
      else if m.kind = 4 then rsFin s m s.price (W (0 - m.qty)) (fun _ => s.past.set i (sendP p m)) (fun cv => W (W (0 - cv) - m.cost))
      else rsFin s m s.price 0 (fun _ => s.past) (fun _ => m.cost)
def rsStep (s : Sk) (m : Mv) : Except Int (Sk × Co) :=
  if m.one ≠ 0 then .error m.one else if (findI (isPast 0 m.seq) s.past).isSome = true then .error 8 else rsDo s m
section
variable {s : Sk} {m : Mv} {pr cq : Int} {ps : Int → List Pa} {var : Int → Int}
theorem rsFin_21 (h : rsQ s cq < 0) : rsFin s m pr cq ps var = .error 21 := if_pos h
theorem rs_do (h1 : m.one = 0) (h2 : ¬ (findI (isPast 0 m.seq) s.past).isSome = true) : rsStep s m = rsDo s m := by unfold rsStep; rw [if_neg (by simp [h1]), if_neg h2]
theorem rs_1 (hk : m.kind = 1) : rsDo s m = rsFin s m s.price m.qty (fun _ => s.past ++ [(⟨m.seq, m.kind, m.lot, m.qty, m.cost, 0, 0⟩ : Pa)]) (fun cv => W (m.cost - cv)) := if_pos hk
theorem rs_2 (hk : m.kind = 2) : rsDo s m = rsFin s m s.price (W (0 - m.qty)) (fun cv => s.past ++ [(⟨m.seq, m.kind, m.lot, m.qty, W (0 - cv), 0, 0⟩ : Pa)]) (fun _ => 0) := by
  unfold rsDo; rw [if_neg (by omega), if_pos hk]
theorem rs_6 (hk : m.kind = 6) : rsDo s m = rsFin s m m.cost 0 (fun _ => s.past) (fun cv => W (0 - cv)) := by
  unfold rsDo; rw [if_neg (by omega), if_neg (by omega), if_pos hk]
theorem rs_e {e : Int} (hk : m.kind = 3 ∨ m.kind = 4 ∨ m.kind = 5) (hr : refd (if m.kind = 3 then 2 else 1) m s.past = .error e) : rsDo s m = .error e := by
  unfold rsDo; rw [if_neg (by omega), if_neg (by omega), if_neg (by omega), hr]
theorem rs_3 {i : Nat} {p : Pa} (hk : m.kind = 3) (hr : refd (if m.kind = 3 then 2 else 1) m s.past = .ok (i, p)) : rsDo s m = rsFin s m s.price m.qty (fun _ => s.past.set i (backP p m)) (fun cv => W (backV p m - cv)) := by
  unfold rsDo; rw [if_neg (by omega), if_neg (by omega), if_neg (by omega), hr]; exact if_pos hk
theorem rs_4 {i : Nat} {p : Pa} (hk : m.kind = 4) (hr : refd (if m.kind = 3 then 2 else 1) m s.past = .ok (i, p)) : rsDo s m = rsFin s m s.price (W (0 - m.qty)) (fun _ => s.past.set i (sendP p m)) (fun cv => W (W (0 - cv) - m.cost)) := by
  unfold rsDo; rw [if_neg (by omega), if_neg (by omega), if_neg (by omega), hr]; simp only; rw [if_neg (by omega), if_pos hk]
theorem rs_5 {i : Nat} {p : Pa} (hk : m.kind = 5) (hr : refd (if m.kind = 3 then 2 else 1) m s.past = .ok (i, p)) : rsDo s m = rsFin s m s.price 0 (fun _ => s.past) (fun _ => m.cost) := by
  unfold rsDo; rw [if_neg (by omega), if_neg (by omega), if_neg (by omega), hr]; simp only; rw [if_neg (by omega), if_neg (by omega)]
end
end Go.SL

namespace Go.SL
open Go
end Go.SL

namespace Go.SL
open Go
end Go.SL

namespace Go.SL
open Go
structure S3 (s : Sk) : Prop where
  sg : SG s
  p0 : 0 ≤ s.price
  p1 : s.price ≤ 1000000000000
  vq : s.value = s.qty * s.price
  ly : s.layers = []
theorem within_iff {n : Int} : withinB n = true ↔ -1000000000000000 ≤ n ∧ n ≤ 1000000000000000 := by unfold withinB; simp
theorem withinF {n : Int} (h : ¬ (-1000000000000000 ≤ n ∧ n ≤ 1000000000000000)) : withinB n = false := by
  rw [Bool.eq_false_iff]; exact fun e => h (within_iff.1 e)
theorem mul_of {a b : Int} (h : -9223372036854775808 ≤ a * b ∧ a * b ≤ 9223372036854775807) : mulOk a b = true ∧ mulN a b = a * b := by
  unfold mulOk mulN; exact ⟨decide_eq_true h, if_pos h⟩
theorem mul_not {a b : Int} (h : ¬ (-9223372036854775808 ≤ a * b ∧ a * b ≤ 9223372036854775807)) : mulOk a b = false := by unfold mulOk; exact decide_eq_false h
theorem valN_of {q p : Int} (h0 : 0 ≤ q * p) : (q * p ≤ 1000000000000000 → valN q p = q * p) ∧ (1000000000000000 < q * p → withinB (valN q p) = false) := by
  constructor
  · intro h
    have := mul_of (a := q) (b := p) ⟨by omega, by omega⟩
    unfold valN; rw [if_pos this.1, this.2, if_neg (by omega)]
  · intro h
    unfold valN
    split
    · rename_i hm
      have : mulN q p = q * p := by
        unfold mulOk at hm; unfold mulN; exact if_pos (of_decide_eq_true hm)
      rw [this]; split
      · exact withinF (n := 1000000000000001) (by decide)
      · exact withinF (by omega)
    · exact withinF (n := 1000000000000001) (by decide)
theorem rsFin_nice {s : Sk} {m : Mv} {pr cq : Int} {ps : Int → List Pa} {var : Int → Int} (hq : W (s.qty + cq) = s.qty + cq) (h0 : 0 ≤ s.qty + cq) (hq1 : s.qty + cq ≤ 1000000000) (hp : 0 ≤ (s.qty + cq) * pr) (hv : (s.qty + cq) * pr ≤ 1000000000000000) (hs : -1000000000000000 ≤ s.value ∧ s.value ≤ 1000000000000000) :
    rsFin s m pr cq ps var = if withinB (var ((s.qty + cq) * pr - s.value)) = false then .error 4 else .ok (⟨s.qty + cq, (s.qty + cq) * pr, pr, [], ps ((s.qty + cq) * pr - s.value)⟩, ⟨m.seq, cq, (s.qty + cq) * pr - s.value, var ((s.qty + cq) * pr - s.value)⟩) := by
  have e1 : rsV s pr cq = (s.qty + cq) * pr := by unfold rsV rsQ; rw [hq]; exact (valN_of hp).1 hv
  have e2 : rsC s pr cq = (s.qty + cq) * pr - s.value := by unfold rsC; rw [e1]; exact W_in ⟨by omega, by omega⟩
  unfold rsFin
  rw [e2, e1]
  unfold rsQ
  rw [hq, if_neg (by omega), if_neg (by rw [within_iff.2 ⟨by omega, hv⟩]; simp; omega)]
theorem rsFin_big {s : Sk} {m : Mv} {pr cq : Int} {ps : Int → List Pa} {var : Int → Int} (hq : W (s.qty + cq) = s.qty + cq) (h0 : 0 ≤ s.qty + cq) (hp : 0 ≤ (s.qty + cq) * pr) (hv : 1000000000 < s.qty + cq ∨ 1000000000000000 < (s.qty + cq) * pr) :
    rsFin s m pr cq ps var = .error 4 := by
  unfold rsFin rsQ
  rw [hq, if_neg (by omega)]
  refine if_pos ?_
  rcases hv with hv | hv
  · exact .inl hv
  · right; unfold rsV rsQ; rw [hq]; exact (valN_of hp).2 hv
def sEnd (s t : Sk) (m : Mv) (c : Co) : Except Int (Sk × Co) := if sOver s t c = true then .error 4 else .ok (sSum s t c, { c with seq := m.seq })
theorem sEnd_nice {s t : Sk} {m : Mv} {c : Co} (hq : W (s.qty + c.qty) = s.qty + c.qty) (hq1 : s.qty + c.qty ≤ 1000000000) (hv : -1000000000000000 ≤ s.value + c.value ∧ s.value + c.value ≤ 1000000000000000) :
    sEnd s t m c = if withinB c.var = false then .error 4 else .ok ({ t with qty := s.qty + c.qty, value := s.value + c.value }, { c with seq := m.seq }) := by
  have e1 : addN s.value c.value = s.value + c.value := by unfold addN; exact if_pos ⟨by omega, by omega⟩
  have e2 : addOk s.value c.value = true := by unfold addOk; exact decide_eq_true ⟨by omega, by omega⟩
  unfold sEnd sOver sSum
  rw [e1, e2, hq, within_iff.2 hv, decide_eq_false (by omega)]
  cases withinB c.var <;> simp
theorem sEnd_big {s t : Sk} {m : Mv} {c : Co} (hq : W (s.qty + c.qty) = s.qty + c.qty) (hv : 1000000000 < s.qty + c.qty ∨ 1000000000000000 < s.value + c.value) : sEnd s t m c = .error 4 := by
  unfold sEnd sOver
  refine if_pos ?_
  rcases hv with hv | hv
  · rw [hq, decide_eq_true hv]; simp
  · by_cases ha : -9223372036854775808 ≤ s.value + c.value ∧ s.value + c.value ≤ 9223372036854775807
    · have e1 : addN s.value c.value = s.value + c.value := by unfold addN; exact if_pos ha
      rw [e1, withinF (n := s.value + c.value) (by omega)]; simp
    · have e2 : addOk s.value c.value = false := by unfold addOk; exact decide_eq_false ha
      rw [e2]; simp
theorem SG.fine {s : Sk} (h : SG s) : s.fine := fun i p hx => by
  have g := h.ps.all p (List.mem_of_getElem? hx)
  refine ⟨g.kd, ?_⟩
  have := g.u0; have := g.u1; have := g.q1; have := g.q2
  rw [W_in ⟨by omega, by omega⟩]; omega
theorem sStep_end {s : Sk} {m : Mv} (h1 : m.one = 0) (h2 : ¬ (findI (isPast 0 m.seq) s.past).isSome = true) (hf : s.fine) : sStep s m = match sDo s m ⟨0, 0, 0, 0⟩ with | .error e => .error e | .ok (t, c) => sEnd s t m c := by
  unfold sStep
  rw [if_neg (by simp [h1]), if_neg (by rw [known_eq hf]; exact h2)]
  rfl
theorem rs_up {s t : Sk} {m : Mv} {ps : Int → List Pa} {var : Int → Int} {v : Int} (h : S3 s) (hg : MG m) (hk : m.kind = 1 ∨ m.kind = 3) (ht : t = { s with past := ps (m.qty * s.price) }) (hv : v = var (m.qty * s.price)) :
    rsFin s m s.price m.qty ps var = if priceE m s.price ≠ 0 then .error (priceE m s.price) else sEnd s t m ⟨0, m.qty, priceV m s.price, v⟩ := by
  have hq := hg.q.2 (by omega)
  have q0 := h.sg.q0; have q1 := h.sg.q1; have v0 := h.sg.v0; have v1 := h.sg.v1
  have hp0 := h.p0
  have hmp : 0 ≤ m.qty * s.price := Int.mul_nonneg (by omega) hp0
  have hsp : 0 ≤ s.value := by rw [h.vq]; exact Int.mul_nonneg q0 hp0
  have hsum : (s.qty + m.qty) * s.price = s.value + m.qty * s.price := by rw [Int.add_mul, ← h.vq]
  have hW : W (s.qty + m.qty) = s.qty + m.qty := W_in ⟨by omega, by omega⟩
  subst hv
  by_cases hbig : 1000000000 < s.qty + m.qty ∨ 1000000000000000 < (s.qty + m.qty) * s.price
  · rw [rsFin_big hW (by omega) (by rw [hsum]; omega) hbig]
    by_cases he : priceE m s.price ≠ 0
    · rw [if_pos he]
      have : priceE m s.price = 4 := by unfold priceE at he ⊢; split <;> simp_all
      rw [this]
    · rw [if_neg he]
      have hpv := (priceV_of he).1
      refine (sEnd_big hW ?_).symm
      simp only
      rw [hpv, ← hsum]; exact hbig
  · have hb : s.qty + m.qty ≤ 1000000000 ∧ (s.qty + m.qty) * s.price ≤ 1000000000000000 := by omega
    have hm := mul_of (a := m.qty) (b := s.price) ⟨by omega, by omega⟩
    have he : ¬ priceE m s.price ≠ 0 := by unfold priceE; rw [if_pos hm.1]; decide
    have hpv := (priceV_of he).1
    have hcv : (s.qty + m.qty) * s.price - s.value = m.qty * s.price := by omega
    rw [if_neg he, rsFin_nice hW (by omega) hb.1 (by rw [hsum]; omega) hb.2 ⟨v0, v1⟩, sEnd_nice hW hb.1 (by simp only; rw [hpv]; omega), hcv, hpv, ht]
    simp only
    rw [hsum]
    cases withinB (var (m.qty * s.price)) <;> simp [h.ly]
theorem rs_down {s t : Sk} {m : Mv} {ps : Int → List Pa} {var : Int → Int} {v : Int} (h : S3 s) (hg : MG m) (hk : m.kind = 2 ∨ m.kind = 4) (ht : t = { s with past := ps (-(m.qty * s.price)) }) (hv : v = var (-(m.qty * s.price))) :
    rsFin s m s.price (W (0 - m.qty)) ps var = if s.qty < m.qty then .error 21 else if priceE m s.price ≠ 0 then .error (priceE m s.price) else sEnd s t m ⟨0, W (0 - m.qty), W (0 - priceV m s.price), v⟩ := by
  have hq := hg.q.2 (by omega)
  have q0 := h.sg.q0; have q1 := h.sg.q1; have v0 := h.sg.v0; have v1 := h.sg.v1
  have hp0 := h.p0
  have hn : W (0 - m.qty) = -m.qty := neg_W ⟨by omega, by omega⟩
  have hmp : 0 ≤ m.qty * s.price := Int.mul_nonneg (by omega) hp0
  have hW : W (s.qty + -m.qty) = s.qty + -m.qty := W_in ⟨by omega, by omega⟩
  rw [hn]
  subst hv
  by_cases hlt : s.qty < m.qty
  · rw [if_pos hlt]; exact rsFin_21 (by unfold rsQ; rw [hW]; omega)
  · rw [if_neg hlt]
    have hle : m.qty * s.price ≤ s.value := by rw [h.vq]; exact Int.mul_le_mul_of_nonneg_right (by omega) hp0
    have hsum : (s.qty + -m.qty) * s.price = s.value - m.qty * s.price := by rw [Int.add_mul, ← h.vq, Int.neg_mul]; omega
    have hm := mul_of (a := m.qty) (b := s.price) ⟨by omega, by omega⟩
    have he : ¬ priceE m s.price ≠ 0 := by unfold priceE; rw [if_pos hm.1]; decide
    have hpv := (priceV_of he).1
    have hnv : W (0 - m.qty * s.price) = -(m.qty * s.price) := neg_W ⟨by omega, by omega⟩
    have hcv : (s.qty + -m.qty) * s.price - s.value = -(m.qty * s.price) := by omega
    rw [if_neg he, hpv, hnv, rsFin_nice hW (by omega) (by omega) (by rw [hsum]; omega) (by rw [hsum]; omega) ⟨v0, v1⟩, sEnd_nice hW (by simp only; omega) (by simp only; omega), hcv, ht]
    simp only
    rw [hsum]
    cases withinB (var (-(m.qty * s.price))) <;> simp [h.ly, Int.sub_eq_add_neg]
theorem rs_land {s : Sk} {m : Mv} (h : S3 s) : rsFin s m s.price 0 (fun _ => s.past) (fun _ => m.cost) = sEnd s s m ⟨0, 0, 0, m.cost⟩ := by
  have q0 := h.sg.q0; have q1 := h.sg.q1; have v0 := h.sg.v0; have v1 := h.sg.v1
  have hsp : 0 ≤ s.value := by rw [h.vq]; exact Int.mul_nonneg q0 h.p0
  have hW : W (s.qty + 0) = s.qty + 0 := W_in ⟨by omega, by omega⟩
  have hsum : (s.qty + 0) * s.price = s.value := by rw [Int.add_zero, ← h.vq]
  rw [rsFin_nice hW (by omega) (by omega) (by rw [hsum]; omega) (by rw [hsum]; omega) ⟨v0, v1⟩, sEnd_nice hW (by simp only; omega) (by simp only; omega), hsum]
  simp only [Int.add_zero, Int.sub_self]
  rw [show (⟨s.qty, s.value, s.price, [], s.past⟩ : Sk) = { s with qty := s.qty, value := s.value } by rw [← h.ly]]
theorem rs_repr {s : Sk} {m : Mv} (h : S3 s) (hc : 0 ≤ m.cost ∧ m.cost ≤ 1000000000000) : rsFin s m m.cost 0 (fun _ => s.past) (fun cv => W (0 - cv)) = match sRepr s m ⟨0, 0, 0, 0⟩ with | .error e => .error e | .ok (t, c) => sEnd s t m c := by
  have q0 := h.sg.q0; have q1 := h.sg.q1; have v0 := h.sg.v0; have v1 := h.sg.v1
  have p0 := h.p0; have p1 := h.p1
  have hsp : 0 ≤ s.value := by rw [h.vq]; exact Int.mul_nonneg q0 h.p0
  have hcp : 0 ≤ s.qty * m.cost := Int.mul_nonneg q0 hc.1
  have hW : W (s.qty + 0) = s.qty + 0 := W_in ⟨by omega, by omega⟩
  have hsub : subOk m.cost s.price = true ∧ subN m.cost s.price = m.cost - s.price := by
    unfold subOk subN; exact ⟨decide_eq_true ⟨by omega, by omega⟩, if_pos ⟨by omega, by omega⟩⟩
  have hd : s.qty * (m.cost - s.price) = s.qty * m.cost - s.value := by rw [Int.mul_sub, ← h.vq]
  have e0 : (s.qty + 0) * m.cost = s.qty * m.cost := by rw [Int.add_zero]
  unfold sRepr reprV
  rw [hsub.1, hsub.2]
  by_cases hbig : 1000000000000000 < s.qty * m.cost
  · rw [rsFin_big hW (by omega) (by rw [e0]; omega) (.inr (by rw [e0]; exact hbig))]
    by_cases hm : -9223372036854775808 ≤ s.qty * (m.cost - s.price) ∧ s.qty * (m.cost - s.price) ≤ 9223372036854775807
    · have hmm := mul_of hm
      rw [hmm.1, hmm.2]
      split
      · rename_i hx; split at hx <;> cases hx; rfl
      · rename_i t c hx
        split at hx
        · cases hx
        · cases hx
          exact (sEnd_big hW (.inr (by simp only; rw [hd]; omega))).symm
    · rw [mul_not hm]; rfl
  · have hm : -9223372036854775808 ≤ s.qty * (m.cost - s.price) ∧ s.qty * (m.cost - s.price) ≤ 9223372036854775807 := by rw [hd]; constructor <;> omega
    have hmm := mul_of hm
    rw [hmm.1, hmm.2, within_iff.2 (by rw [hd]; constructor <;> omega)]
    simp only [Bool.not_true, Bool.or_self, Bool.false_eq_true, if_false]
    rw [rsFin_nice hW (by omega) (by omega) (by rw [e0]; omega) (by rw [e0]; omega) ⟨v0, v1⟩, sEnd_nice hW (by simp only; omega) (by simp only; rw [hd]; omega), e0, hd]
    simp only [Int.add_zero]
    rw [show s.value + (s.qty * m.cost - s.value) = s.qty * m.cost by omega]
    rw [show (⟨s.qty, s.qty * m.cost, m.cost, [], s.past⟩ : Sk) = { s with price := m.cost, qty := s.qty, value := s.qty * m.cost } by rw [← h.ly]]
theorem neg_neg_W {x : Int} (h : i64 x) : W (0 - -x) = x := by rw [show 0 - -x = x by omega]; exact W_in h
theorem rs_eq {s : Sk} {m : Mv} (h : S3 s) : rsStep s m = sStep s m := by
  by_cases h1 : m.one = 0
  · by_cases h2 : (findI (isPast 0 m.seq) s.past).isSome = true
    · unfold rsStep sStep
      rw [if_neg (by simp [h1]), if_pos h2, if_neg (by simp [h1]), if_pos (by rw [known_eq h.sg.fine]; exact h2)]
    · have hg := MG.of h1
      rw [rs_do h1 h2, sStep_end h1 h2 h.sg.fine]
      rcases (show m.kind = 1 ∨ m.kind = 2 ∨ m.kind = 3 ∨ m.kind = 4 ∨ m.kind = 5 ∨ m.kind = 6 by have := hg.k; omega) with hk | hk | hk | hk | hk | hk
      · rw [rs_1 hk, sDo_1 hk, rs_up h hg (.inl hk) rfl rfl]; unfold sRecv
        by_cases he : priceE m s.price ≠ 0
        · simp only [if_pos he]
        · simp only [if_neg he]; rw [(priceV_of he).1]
      · rw [rs_2 hk, sDo_2 hk, rs_down h hg (.inl hk) rfl rfl]; unfold sIssue
        by_cases hlt : s.qty < m.qty
        · simp only [if_pos hlt]
        · simp only [if_neg hlt]
          by_cases he : priceE m s.price ≠ 0
          · simp only [if_pos he]
          · have hp := priceV_of he
            simp only [if_neg he]; rw [neg_neg_W (hp.1 ▸ hp.2), hp.1]
      · cases hr : refd (if m.kind = 3 then 2 else 1) m s.past with
        | error e =>
          rw [rs_e (.inl hk) hr, sDo_3 hk]; rw [if_pos hk] at hr; unfold sCust; rw [hr]
        | ok x =>
          obtain ⟨i, p⟩ := x
          rw [rs_3 hk hr, sDo_3 hk, rs_up h hg (.inr hk) rfl rfl]; rw [if_pos hk] at hr; unfold sCust; rw [hr]
          by_cases he : priceE m s.price ≠ 0
          · simp only [if_pos he]
          · simp only [if_neg he]; rw [(priceV_of he).1]
      · cases hr : refd (if m.kind = 3 then 2 else 1) m s.past with
        | error e =>
          rw [rs_e (.inr (.inl hk)) hr, sDo_4 hk]; rw [if_neg (by omega)] at hr; unfold sSupp; rw [hr]
        | ok x =>
          obtain ⟨i, p⟩ := x
          rw [rs_4 hk hr, sDo_4 hk, rs_down h hg (.inr hk) rfl rfl]; rw [if_neg (by omega)] at hr; unfold sSupp; rw [hr]
          by_cases hlt : s.qty < m.qty
          · simp only [if_pos hlt]
          · simp only [if_neg hlt]
            by_cases he : priceE m s.price ≠ 0
            · simp only [if_pos he]
            · have hp := priceV_of he
              simp only [if_neg he]; rw [neg_neg_W (hp.1 ▸ hp.2), hp.1]
      · cases hr : refd (if m.kind = 3 then 2 else 1) m s.past with
        | error e =>
          rw [rs_e (.inr (.inr hk)) hr, sDo_5 hk]; rw [if_neg (by omega)] at hr; unfold sLand; rw [hr]
        | ok x =>
          obtain ⟨i, p⟩ := x
          rw [rs_5 hk hr, sDo_5 hk, rs_land h]; rw [if_neg (by omega)] at hr; unfold sLand; rw [hr]
      · rw [rs_6 hk, sDo_6 (by omega), rs_repr h hg.c]
  · unfold rsStep sStep
    rw [if_pos h1, if_pos h1]
theorem rsFin_keep {s t : Sk} {m : Mv} {c : Co} {pr cq : Int} {ps : Int → List Pa} {var : Int → Int} (h : rsFin s m pr cq ps var = .ok (t, c)) (hp : 0 ≤ pr) : t.layers = [] ∧ t.value = t.qty * t.price := by
  unfold rsFin at h
  split at h
  · cases h
  rename_i h0
  split at h
  · cases h
  rename_i h1
  split at h
  · cases h
  cases h
  refine ⟨rfl, ?_⟩
  have hmp : 0 ≤ rsQ s cq * pr := Int.mul_nonneg (by omega) hp
  by_cases hb : rsQ s cq * pr ≤ 1000000000000000
  · exact (valN_of hmp).1 hb
  · exact absurd (.inr ((valN_of hmp).2 (by omega))) h1
theorem S3.step {s t : Sk} {m : Mv} {c : Co} (h : S3 s) (hst : sStep s m = .ok (t, c)) : S3 t := by
  have hf := sStep_f h.sg ⟨h.p0, h.p1⟩ hst
  have hg := hf.1.mg
  have hk : t.layers = [] ∧ t.value = t.qty * t.price := by
    rw [← rs_eq h] at hst
    unfold rsStep at hst
    split at hst
    · cases hst
    split at hst
    · cases hst
    unfold rsDo at hst
    split at hst
    · exact rsFin_keep hst h.p0
    split at hst
    · exact rsFin_keep hst h.p0
    split at hst
    · exact rsFin_keep hst hg.c.1
    split at hst
    · cases hst
    split at hst
    · exact rsFin_keep hst h.p0
    split at hst
    · exact rsFin_keep hst h.p0
    · exact rsFin_keep hst h.p0
  exact ⟨hf.2.1, hf.2.2.1, hf.2.2.2, hk.2, hk.1⟩
end Go.SL

namespace Go.SL
open Go
theorem bl_irrefl : ∀ x : List UInt8, Op.bytesLess x x = false
  | [] => rfl
  | a :: x => by
    have h1 : ¬ a < a := by rw [UInt8.lt_iff_toNat_lt]; omega
    simp [Op.bytesLess, h1, bl_irrefl x]
theorem bl_trans : ∀ x y z : List UInt8, Op.bytesLess x y = true → Op.bytesLess y z = true → Op.bytesLess x z = true
  | _, [], _, h, _ => by simp [Op.bytesLess] at h
  | _, _ :: _, [], _, h => by simp [Op.bytesLess] at h
  | [], _ :: _, _ :: _, _, _ => rfl
  | a :: x, b :: y, c :: z, h1, h2 => by
    simp only [Op.bytesLess, Bool.or_eq_true, Bool.and_eq_true, decide_eq_true_eq, beq_iff_eq] at h1 h2 ⊢
    have ih := bl_trans x y z
    rcases h1 with h1 | ⟨rfl, h1⟩ <;> rcases h2 with h2 | ⟨rfl, h2⟩
    · left; rw [UInt8.lt_iff_toNat_lt] at *; omega
    · left; exact h1
    · left; exact h2
    · right; exact ⟨rfl, ih h1 h2⟩
theorem bl_total : ∀ x y : List UInt8, x ≠ y → Op.bytesLess x y = true ∨ Op.bytesLess y x = true
  | [], [], h => absurd rfl h
  | [], _ :: _, _ => .inl rfl
  | _ :: _, [], _ => .inr rfl
  | a :: x, b :: y, h => by
    simp only [Op.bytesLess, Bool.or_eq_true, Bool.and_eq_true, decide_eq_true_eq, beq_iff_eq]
    rcases Nat.lt_trichotomy a.toNat b.toNat with h1 | h1 | h1
    · left; left; rw [UInt8.lt_iff_toNat_lt]; exact h1
    · have e : a = b := UInt8.toNat_inj.1 h1
      subst e
      rcases bl_total x y (fun e => h (by rw [e])) with h2 | h2
      · left; right; exact ⟨rfl, h2⟩
      · right; right; exact ⟨rfl, h2⟩
    · right; left; rw [UInt8.lt_iff_toNat_lt]; exact h1
def blt (a b : ByteArray) : Bool := Op.bytesLess a.toList b.toList
theorem toL_inj {a b : ByteArray} (h : a.toList = b.toList) : a = b := by
  rw [ByteArray.toList_eq, ByteArray.toList_eq] at h
  cases a; cases b
  simp only [ByteArray.mk.injEq] at *
  exact Array.toList_inj.1 h
theorem blt_irrefl (a : ByteArray) : blt a a = false := bl_irrefl _
theorem blt_trans {a b c : ByteArray} (h1 : blt a b = true) (h2 : blt b c = true) : blt a c = true := bl_trans _ _ _ h1 h2
theorem blt_total {a b : ByteArray} (h : a ≠ b) : blt a b = true ∨ blt b a = true := bl_total _ _ fun e => h (toL_inj e)
theorem blt_asymm {a b : ByteArray} (h : blt a b = true) : blt b a = false := by
  cases hb : blt b a with
  | false => rfl
  | true => have := blt_trans h hb; rw [blt_irrefl] at this; cases this
def LS (ls : List Ly) : Prop := ls.Pairwise fun a b => blt a.lot b.lot = true
theorem findI_cons {α : Type} {f : α → Bool} {l : α} {ls : List α} : findI f (l :: ls) = if f l = true then some (0, l) else (findI f ls).map fun x => (x.1 + 1, x.2) := by
  unfold findI
  rw [List.findIdx?_cons]
  by_cases h : f l = true
  · simp [h]
  · simp only [h]
    cases ls.findIdx? f with
    | none => rfl
    | some j => simp; cases ls[j]? <;> rfl
theorem lotI_nil {lot : ByteArray} : lotI lot [] = 0 := by unfold lotI findI; simp
theorem lotF_cons {lot : ByteArray} {l : Ly} {ls : List Ly} : lotF lot (l :: ls) = if l.lot = lot then some (0, l) else if lotB lot l = true then none else (lotF lot ls).map fun x => (x.1 + 1, x.2) := by
  unfold lotF
  rw [findI_cons]
  by_cases h : l.lot = lot
  · have hb : lotB lot l = true := by simp [lotB, h]
    rw [if_pos hb, if_pos h]; simp [h]
  · rw [if_neg h]
    by_cases hb : lotB lot l = true
    · rw [if_pos hb, if_pos hb]; simp [h]
    · rw [if_neg hb, if_neg hb]
      cases hf : findI (lotB lot) ls with
      | none => rfl
      | some x => obtain ⟨j, y⟩ := x; simp only [Option.map_some]; split <;> rfl
theorem lotI_cons {lot : ByteArray} {l : Ly} {ls : List Ly} : lotI lot (l :: ls) = if lotB lot l = true then 0 else lotI lot ls + 1 := by
  unfold lotI
  rw [findI_cons]
  by_cases hb : lotB lot l = true
  · rw [if_pos hb, if_pos hb]
  · rw [if_neg hb, if_neg hb]
    cases findI (lotB lot) ls with
    | none => rfl
    | some x => rfl
theorem LS.tail {l : Ly} {ls : List Ly} (h : LS (l :: ls)) : LS ls ∧ ∀ y ∈ ls, blt l.lot y.lot = true := ⟨(List.pairwise_cons.1 h).2, (List.pairwise_cons.1 h).1⟩
theorem lotB_blt {lot : ByteArray} {l : Ly} : lotB lot l = !blt l.lot lot := by
  unfold lotB
  have e3 : Op.bytesLess l.lot.toList lot.toList = blt l.lot lot := rfl
  rw [e3]
  by_cases h : l.lot = lot
  · rw [h, blt_irrefl]; simp
  · simp [h]
structure S4 (s : Sk) : Prop where
  sg : SG s
  li : LI s.layers s.qty s.value
  ls : LS s.layers
  z : ∀ l ∈ s.layers, l.seq = 0
theorem mem_ins {ls : List Ly} {i : Nat} {x y : Ly} (h : y ∈ insL ls i x) : y = x ∨ y ∈ ls := by
  unfold insL at h
  rw [List.mem_append, List.mem_cons] at h
  rcases h with h | h | h
  · exact .inr (List.mem_of_mem_take h)
  · exact .inl h
  · exact .inr (List.mem_of_mem_drop h)
theorem LS_ins {lot : ByteArray} {x : Ly} (hx : x.lot = lot) : ∀ {ls : List Ly}, LS ls → lotF lot ls = none → LS (insL ls (lotI lot ls) x)
  | [], _, _ => by rw [lotI_nil]; exact List.pairwise_singleton _ _
  | l :: ls, h, hn => by
    obtain ⟨h1, h2⟩ := h.tail
    rw [lotF_cons] at hn
    split at hn
    · cases hn
    rename_i he
    rw [lotI_cons, lotB_blt]
    cases hb : blt l.lot lot with
    | false =>
      have hgt : blt lot l.lot = true := by
        rcases blt_total he with h3 | h3
        · rw [hb] at h3; cases h3
        · exact h3
      simp only [Bool.not_false, if_true]
      refine List.pairwise_cons.2 ⟨fun y hy => ?_, h⟩
      rw [hx]
      rcases List.mem_cons.1 hy with rfl | hy
      · exact hgt
      · exact blt_trans hgt (h2 y hy)
    | true =>
      rw [lotB_blt, hb] at hn
      simp only [Bool.not_true, Bool.false_eq_true, if_false] at hn ⊢
      have hn' : lotF lot ls = none := by cases hl : lotF lot ls with | none => rfl | some y => rw [hl] at hn; cases hn
      refine List.pairwise_cons.2 ⟨fun y hy => ?_, LS_ins hx h1 hn'⟩
      rcases mem_ins hy with rfl | hy
      · rw [hx]; exact hb
      · exact h2 y hy
theorem LS_map {ls : List Ly} : LS ls ↔ (ls.map Ly.lot).Pairwise fun a b => blt a b = true := by
  unfold LS; rw [List.pairwise_map]
theorem LS_set {ls : List Ly} {i : Nat} {l x : Ly} (h : LS ls) (hx : ls[i]? = some l) (he : x.lot = l.lot) : LS (ls.set i x) := by
  rw [LS_map] at h ⊢
  rw [List.map_set, he, set_same (by rw [List.getElem?_map, hx]; rfl)]
  exact h
theorem LS_add {ls : List Ly} {lot : ByteArray} {q v : Int} (h : LS ls) (hz : ∀ l ∈ ls, l.seq = 0) : LS (addLot ls lot q v) ∧ ∀ y ∈ addLot ls lot q v, y.seq = 0 := by
  unfold addLot
  cases hf : lotF lot ls with
  | none => exact ⟨LS_ins (lot := lot) (x := bump (newLy lot) q v) rfl h hf, fun y hy => by rcases mem_ins hy with rfl | hy; rfl; exact hz y hy⟩
  | some x =>
    obtain ⟨i, l⟩ := x
    obtain ⟨hx, hl, _⟩ := lotF_some hf
    exact ⟨LS_set h hx rfl, fun y hy => by rcases mem_set hy with rfl | hy; exact hz l (List.mem_of_getElem? hx); exact hz y hy⟩
theorem LS_take {ls : List Ly} {i : Nat} {l : Ly} {q : Int} (h : LS ls) (hz : ∀ l ∈ ls, l.seq = 0) (hx : ls[i]? = some l) : LS (takeL ls i l q) ∧ ∀ y ∈ takeL ls i l q, y.seq = 0 := by
  unfold takeL
  split
  · exact ⟨h.sublist (List.eraseIdx_sublist _ _), fun y hy => hz y (List.mem_of_mem_eraseIdx hy)⟩
  · exact ⟨LS_set h hx rfl, fun y hy => by rcases mem_set hy with rfl | hy; exact hz l (List.mem_of_getElem? hx); exact hz y hy⟩
theorem lDo_sorted {s t : Sk} {m : Mv} {c : Co} (h : LS s.layers) (hz : ∀ l ∈ s.layers, l.seq = 0) (hd : lDo s m = .ok (t, c)) : LS t.layers ∧ ∀ y ∈ t.layers, y.seq = 0 := by
  unfold lDo at hd
  split at hd
  · unfold lRecv at hd; split at hd <;> cases hd; exact LS_add h hz
  split at hd
  · unfold lIssue at hd
    split at hd
    · cases hd
    · rename_i i l hf
      split at hd
      · cases hd
      · split at hd <;> cases hd
        exact LS_take h hz (lotF_some hf).1
  split at hd
  · unfold lBack lRef at hd
    split at hd
    · cases hd
    · unfold lBackR at hd; cases hd; exact LS_add h hz
  split at hd
  · unfold lSend lRef at hd
    split at hd
    · cases hd
    · unfold lSendR at hd
      split at hd
      · cases hd
      · rename_i j l hf
        split at hd <;> cases hd
        exact LS_take h hz (lotF_some hf).1
  split at hd
  · unfold lLand lRef at hd
    split at hd
    · cases hd
    · unfold lLandR at hd
      split at hd
      · cases hd; exact ⟨h, hz⟩
      · cases hd; exact LS_add h hz
  · cases hd
theorem S4.step {s t : Sk} {m : Mv} {c : Co} (h : S4 s) (hst : lStep s m = .ok (t, c)) : S4 t := by
  have hf := lStep_f h.sg h.li hst
  have hs : LS t.layers ∧ ∀ y ∈ t.layers, y.seq = 0 := by
    unfold lStep at hst
    split at hst
    · cases hst
    split at hst
    · cases hst
    split at hst
    · cases hst
    · rename_i t1 c1 hd
      split at hst <;> cases hst
      exact (show LS t1.layers ∧ ∀ y ∈ t1.layers, y.seq = 0 from lDo_sorted h.ls h.z hd)
  exact ⟨hf.2.1, hf.2.2, hs.1, hs.2⟩
end Go.SL

namespace Go.SL
open Go
structure RInv (k : Int) (s : Sk) : Prop where
  i : Inv k s
  l2 : k = 2 → s.layers = []
  s3 : k = 3 → S3 s
  s4 : k = 4 → S4 s
theorem aStep_lay {s t : Sk} {m : Mv} {c : Co} (h : aStep s m = .ok (t, c)) : t.layers = s.layers := by
  unfold aStep at h
  split at h
  · cases h
  split at h
  · cases h
  split at h
  · cases h
  · rename_i t1 c1 hd
    split at h <;> cases h
    exact (show t1.layers = s.layers from aDo_layers hd)
theorem RInv.step {k : Int} {s t : Sk} {m : Mv} {c : Co} (h : RInv k s) (hst : stepM k s m = .ok (t, c)) : RInv k t :=
  ⟨(stepM_f h.i hst).2, fun hk => by rw [stepM_2 hk] at hst; rw [aStep_lay hst]; exact h.l2 hk, fun hk => by rw [stepM_3 hk] at hst; exact (h.s3 hk).step hst, fun hk => by rw [stepM_4 hk] at hst; exact (h.s4 hk).step hst⟩
theorem RInv.fine {k : Int} {s : Sk} (h : RInv k s) : s.fine := h.i.sg.fine
end Go.SL

namespace Go.SL
open Go
def targK (kind : Int) : Int := if kind = 3 then 2 else 1
def backQ (l : List Mv) (kind ref : Int) : Int := match l with
  | [] => 0
  | y :: l => (if y.kind = kind ∧ y.ref = ref then y.qty else 0) + backQ l kind ref
def referM (l : List Mv) (m : Mv) : Int :=
  if (l.length : Int) < m.ref then 28 else match l[(m.ref - 1).toNat]? with
  | none => 28
  | some x => if x.item ≠ m.item ∨ x.kind ≠ targK m.kind then 28 else if m.value < x.value then 17 else if x.qty < backQ l m.kind m.ref + m.qty then 21 else 0
def chkL (done : List Mv) : List Mv → Option (Nat × Int)
  | [] => none
  | m :: ms => if m.seq ≠ (done.length : Int) + 1 then some (done.length, 17) else if m.one ≠ 0 then some (done.length, m.one)
    else if refersB m.kind = true ∧ referM done m ≠ 0 then some (done.length, referM done m) else chkL (done ++ [m]) ms
def chkM (ms : List Mv) : Option (Nat × Int) := if 2000 < ms.length then some (0, 9) else chkL [] ms
def Fine (ms : List Mv) : Prop := ∀ (i : Nat) (m : Mv), ms[i]? = some m → m.seq = (i : Int) + 1 ∧ m.one = 0 ∧ (refersB m.kind = true → referM (ms.take i) m = 0)
theorem chkL_none : ∀ {ms done : List Mv}, chkL done ms = none ↔ ∀ (i : Nat) (m : Mv), ms[i]? = some m → m.seq = ((done.length + i : Nat) : Int) + 1 ∧ m.one = 0 ∧ (refersB m.kind = true → referM (done ++ ms.take i) m = 0)
  | [], done => by simp [chkL]
  | x :: ms, done => by
    simp only [chkL]
    constructor
    · intro h
      split at h
      · cases h
      split at h
      · cases h
      split at h
      · cases h
      rename_i h1 h2 h3
      have ih := chkL_none.1 h
      intro i m hm
      cases i with
      | zero =>
        simp only [List.getElem?_cons_zero, Option.some.injEq] at hm
        subst hm
        refine ⟨by simpa using h1, by simpa using h2, fun hr => ?_⟩
        simpa [hr] using h3
      | succ i =>
        have := ih i m (by simpa using hm)
        simp only [List.length_append, List.length_cons, List.length_nil, List.append_assoc, List.singleton_append] at this
        simp only [List.take_succ_cons]
        refine ⟨by rw [this.1]; omega, this.2⟩
    · intro h
      have h0 := h 0 x rfl
      simp only [List.take_zero, List.append_nil] at h0
      rw [if_neg (by rw [h0.1]; simp), if_neg (by simp [h0.2.1]), if_neg (fun ⟨a, b⟩ => b (h0.2.2 a))]
      refine chkL_none.2 fun i m hm => ?_
      have := h (i + 1) m (by simpa using hm)
      simp only [List.take_succ_cons] at this
      simp only [List.length_append, List.length_cons, List.length_nil, List.append_assoc, List.singleton_append]
      exact ⟨by rw [this.1]; omega, this.2⟩
theorem chkM_none {ms : List Mv} : chkM ms = none ↔ ms.length ≤ 2000 ∧ Fine ms := by
  unfold chkM Fine
  split
  · constructor
    · intro h; cases h
    · intro h; omega
  · rw [chkL_none]
    simp only [List.length_nil, Nat.zero_add, List.nil_append]
    exact ⟨fun h => ⟨by omega, h⟩, fun h => h.2⟩
def insB {α : Type} (p : α → Bool) (x : α) (o : List α) : List α := o.takeWhile (fun y => !p y) ++ x :: o.dropWhile (fun y => !p y)
def cutN {α : Type} (p : α → Bool) (o : List α) : Nat := (o.takeWhile fun y => !p y).length
theorem insB_eq {α : Type} (p : α → Bool) (x : α) (o : List α) : insB p x o = o.take (cutN p o) ++ x :: o.drop (cutN p o) := by
  have h := List.takeWhile_append_dropWhile (p := fun y => !p y) (l := o)
  unfold insB cutN
  have h1 : ∀ a b : List α, (a ++ b).take a.length = a ∧ (a ++ b).drop a.length = b := fun a b => by simp
  have h2 := h1 (o.takeWhile fun y => !p y) (o.dropWhile fun y => !p y)
  rw [h] at h2
  rw [h2.1, h2.2]
theorem cutN_le {α : Type} {p : α → Bool} {o : List α} : cutN p o ≤ o.length := (List.takeWhile_prefix _).length_le
theorem cutN_lt {α : Type} {p : α → Bool} : ∀ {o : List α} {i : Nat} {y : α}, i < cutN p o → o[i]? = some y → p y = false
  | [], i, y, h, _ => by simp [cutN] at h
  | x :: o, i, y, h, hy => by
    simp only [cutN, List.takeWhile_cons] at h
    split at h
    · rename_i hx
      cases i with
      | zero => simp only [List.getElem?_cons_zero, Option.some.injEq] at hy; subst hy; simpa using hx
      | succ i => exact cutN_lt (o := o) (i := i) (by unfold cutN; simpa using h) (by simpa using hy)
    · simp at h
theorem cutN_at {α : Type} {p : α → Bool} : ∀ {o : List α} {y : α}, o[cutN p o]? = some y → p y = true
  | [], y, h => by simp at h
  | x :: o, y, h => by
    simp only [cutN, List.takeWhile_cons] at h
    split at h
    · exact cutN_at (o := o) (by unfold cutN; simpa using h)
    · rename_i hx
      simp only [List.length_nil, List.getElem?_cons_zero, Option.some.injEq] at h
      subst h; simpa using hx
def Mono {α : Type} (p : α → Bool) (o : List α) : Prop := ∀ (i j : Nat) (x y : α), i ≤ j → o[i]? = some x → o[j]? = some y → p x = true → p y = true
theorem cutN_iff {α : Type} {p : α → Bool} {o : List α} (hm : Mono p o) {i : Nat} {y : α} (hy : o[i]? = some y) : p y = true ↔ cutN p o ≤ i := by
  constructor
  · intro hp
    refine Nat.le_of_not_lt fun h => ?_
    have := cutN_lt h hy
    rw [this] at hp; cases hp
  · intro h
    have hl := (List.getElem?_eq_some_iff.1 hy).1
    obtain ⟨z, hz⟩ : ∃ z, o[cutN p o]? = some z := ⟨_, List.getElem?_eq_getElem (by omega)⟩
    exact hm _ _ _ _ h hz hy (cutN_at hz)
theorem cutN_mid {α : Type} {p : α → Bool} {o : List α} {n : Nat} (hn : n ≤ o.length) (h0 : ∀ i y, i < n → o[i]? = some y → p y = false) (h1 : ∀ y, o[n]? = some y → p y = true) : cutN p o = n := by
  rcases Nat.lt_trichotomy (cutN p o) n with h | h | h
  · obtain ⟨z, hz⟩ : ∃ z, o[cutN p o]? = some z := ⟨_, List.getElem?_eq_getElem (by omega)⟩
    have a := h0 _ _ h hz
    have b := cutN_at hz
    rw [a] at b; cases b
  · exact h
  · have hl := cutN_le (p := p) (o := o)
    obtain ⟨z, hz⟩ : ∃ z, o[n]? = some z := ⟨_, List.getElem?_eq_getElem (by omega)⟩
    have a := cutN_lt h hz
    rw [h1 z hz] at a; cases a
def laterB (v : Int) (y : Mv) : Bool := decide (v < y.value)
def ordM (ms : List Mv) : List Mv := ms.foldl (fun o m => insB (laterB m.value) m o) []
theorem ordM_app (ms : List Mv) (m : Mv) : ordM (ms ++ [m]) = insB (laterB m.value) m (ordM ms) := by simp [ordM]
theorem insB_perm {α : Type} (p : α → Bool) (x : α) (o : List α) : (insB p x o).Perm (x :: o) := by
  unfold insB
  refine List.perm_middle.trans ?_
  rw [List.takeWhile_append_dropWhile]
theorem ordM_perm (ms : List Mv) : (ordM ms).Perm ms := by
  suffices H : ∀ (ms o : List Mv), (ms.foldl (fun o m => insB (laterB m.value) m o) o).Perm (o ++ ms) by simpa [ordM] using H ms []
  intro ms
  induction ms with
  | nil => intro o; simp
  | cons m ms ih =>
    intro o
    simp only [List.foldl_cons]
    refine (ih _).trans ?_
    refine ((insB_perm _ _ _).append_right ms).trans ?_
    exact List.perm_middle.symm
end Go.SL

namespace Go.SL
open Go
def entsF {α : Type} (f g : α → Value) : Nat → List α → List MapEntry
  | _, [] => []
  | n, x :: xs => ⟨f x, g x, n⟩ :: entsF f g (n + 1) xs
def ents {α : Type} (f g : α → Value) (xs : List α) : Array MapEntry := ⟨entsF f g 0 xs⟩
def amap {α : Type} (b : Nat) (f g : α → Value) (xs : List α) : HP := pt b (.map (ents f g xs) xs.length)
def kAt {α κ : Type} [DecidableEq κ] (kf : α → κ) (k : κ) : List α → Option (Nat × α)
  | [] => none
  | x :: xs => if kf x = k then some (0, x) else (kAt kf k xs).map fun p => (p.1 + 1, p.2)
section
variable {α κ : Type} [DecidableEq κ] {f g : α → Value} {kf : α → κ}
theorem entsF_len : ∀ (xs : List α) (n : Nat), (entsF f g n xs).length = xs.length
  | [], _ => rfl
  | x :: xs, n => by simp [entsF, entsF_len xs]
theorem entsF_get : ∀ (xs : List α) (n i : Nat), (entsF f g n xs)[i]? = xs[i]?.map fun x => ⟨f x, g x, n + i⟩
  | [], _, _ => by simp [entsF]
  | x :: xs, n, 0 => by simp [entsF]
  | x :: xs, n, i + 1 => by simp only [entsF, List.getElem?_cons_succ, entsF_get xs]; cases xs[i]? <;> simp; omega
theorem entsF_app (y : α) : ∀ (xs : List α) (n : Nat), entsF f g n (xs ++ [y]) = entsF f g n xs ++ [⟨f y, g y, n + xs.length⟩]
  | [], n => by simp [entsF]
  | x :: xs, n => by simp only [List.cons_append, entsF, entsF_app y xs, List.length_cons]; rw [show n + 1 + xs.length = n + (xs.length + 1) by omega]
theorem entsF_mem {xs : List α} {n : Nat} {e : MapEntry} (h : e ∈ entsF f g n xs) : ∃ i x, xs[i]? = some x ∧ e = ⟨f x, g x, n + i⟩ := by
  obtain ⟨i, hi⟩ := List.getElem?_of_mem h
  rw [entsF_get] at hi
  cases hx : xs[i]? with
  | none => rw [hx] at hi; cases hi
  | some x => rw [hx] at hi; exact ⟨i, x, hx, (Option.some.inj hi).symm⟩
theorem entsF_nodup : ∀ (xs : List α) (n : Nat), ((entsF f g n xs).map (·.born)).Nodup ∧ ∀ b ∈ (entsF f g n xs).map (·.born), n ≤ b
  | [], n => by simp [entsF]
  | x :: xs, n => by
    obtain ⟨h1, h2⟩ := entsF_nodup xs (n + 1)
    simp only [entsF, List.map_cons]
    refine ⟨List.nodup_cons.2 ⟨fun h => ?_, h1⟩, fun b hb => ?_⟩
    · have := h2 _ h; omega
    · rcases List.mem_cons.1 hb with rfl | h
      · exact Nat.le_refl _
      · have := h2 _ h; omega
theorem kAt_some {k : κ} : ∀ {xs : List α} {i : Nat} {x : α}, kAt kf k xs = some (i, x) → xs[i]? = some x ∧ kf x = k
  | y :: xs, i, x, h => by
    simp only [kAt] at h
    split at h
    · rename_i hk; cases h; exact ⟨rfl, hk⟩
    · cases hr : kAt kf k xs with
      | none => rw [hr] at h; cases h
      | some p =>
        rw [hr] at h; simp only [Option.map_some, Option.some.injEq, Prod.mk.injEq] at h
        obtain ⟨rfl, rfl⟩ := h
        have := kAt_some (i := p.1) (x := p.2) (by rw [hr])
        exact ⟨by simpa using this.1, this.2⟩
theorem kAt_none {k : κ} : ∀ {xs : List α}, kAt kf k xs = none → ∀ x ∈ xs, kf x ≠ k
  | [], _, x, h => by cases h
  | y :: xs, h, x, hx => by
    simp only [kAt] at h
    split at h
    · cases h
    · rename_i hk
      rcases List.mem_cons.1 hx with rfl | h'
      · exact hk
      · exact kAt_none (by cases hr : kAt kf k xs with | none => rfl | some p => rw [hr] at h; cases h) x h'
theorem kAt_no {k : κ} : ∀ {xs : List α}, (∀ x ∈ xs, kf x ≠ k) → kAt kf k xs = none
  | [], _ => rfl
  | y :: xs, h => by
    simp only [kAt]
    rw [if_neg (h y (List.mem_cons_self ..)), kAt_no fun x hx => h x (List.mem_cons_of_mem _ hx)]; rfl
def kSet (kf : α → κ) (y : α) (xs : List α) : List α := match kAt kf (kf y) xs with | some (i, _) => xs.set i y | none => xs ++ [y]
theorem entsF_set (y : α) : ∀ (xs : List α) (n i : Nat), i < xs.length → entsF f g n (xs.set i y) = (entsF f g n xs).set i ⟨f y, g y, n + i⟩
  | x :: xs, n, 0, _ => by simp [entsF]
  | x :: xs, n, i + 1, h => by
    simp only [List.set_cons_succ, entsF]
    rw [entsF_set y xs (n + 1) i (by simpa using h), show n + 1 + i = n + (i + 1) by omega]
end
section
variable {P : Program} {β : Base} {E : Env} {L L' M M' : List HP} {K : Value → List HP → Prop} {d : Option Tmp} {ty : TypeId} {pos : String} {af : Array Edge} {gd : Option (Nat × Bool)} {x y z : Operand} {t kt et : TypeId} {α : Type} {f g : α → Value} {b : Nat} {xs : List α}
theorem Sat.heap {o : Obj} {w : World} (hs : Sat β L w) (p : Pick L (pt b o) M) : w.heap[b]? = some o := by
  obtain ⟨⟨h, ⟨h1, h2, _, rfl, h1p, _⟩, hsub, _⟩, _⟩ := hs.pick p
  exact hsub b o (by simp [Hp.add, h1p b])
theorem OpJ.makeMap (h : ∀ b, K (.map (some b)) (pt b (.map #[] 0) :: L)) : OpJ P β E L ⟨d, .makeMap t none, ty, pos, af, gd⟩ K :=
  OpJ.vals fun a w ha hs => by
    refine ⟨.map (some w.heap.size), pt w.heap.size (.map #[] 0) :: L, w.alloc (.map #[] 0), ?_, Has.alloc hs _, h w.heap.size⟩
    simp [execOp, Instr.makeMap, newObj, Sem.run, Result.andThen]
class MPI (P : Program) (t : TypeId) (kt et : outParam TypeId) : Prop where
  eq : P.underlying t = some (.map kt et)
class ZVI (P : Program) (t : TypeId) (z : outParam Value) : Prop where
  eq : (P.info? t).bind (·.zero) = some z
theorem ZVI.run {z : Value} (Z : ZVI P t z) (w : World) : (zeroValue t).run P w = .ok z w := by
  have h := Z.eq
  cases hi : P.info? t with
  | none => simp [hi] at h
  | some i => simp [hi] at h; simp [zeroValue, typeInfo, hi, h, Result.andThen]
structure KeyEnc {κ : Type} [DecidableEq κ] (enc : κ → Value) (kd : TypeDesc) : Prop where
  isk : ∀ a, MapKept.IsKey kd (enc a)
  now : ∀ a b, Instr.sameNow kd (enc a) (enc b) = some (decide (a = b))
theorem keyStr : KeyEnc Value.string .string := ⟨fun _ => trivial, fun a b => by simp only [Instr.sameNow, Option.some.injEq]; exact str_beq a b⟩
section
variable {κ : Type} [DecidableEq κ] {enc : κ → Value} {kd : TypeDesc} {kf : α → κ} {k : κ}
theorem findNow_ents (KE : KeyEnc enc kd) : ∀ (xs : List α) (n i : Nat), Instr.findNow kd (enc k) (entsF (fun x => enc (kf x)) g n xs) i = some ((kAt kf k xs).map fun p => (i + p.1, g p.2))
  | [], _, _ => rfl
  | x :: xs, n, i => by
    simp only [entsF, Instr.findNow, KE.now, kAt]
    by_cases h : k = kf x
    · simp [h]
    · have h' : ¬ kf x = k := fun e => h e.symm
      simp only [decide_eq_false h, if_neg h', findNow_ents KE xs]
      cases kAt kf k xs <;> simp; omega
theorem run_findKey_ents (KE : KeyEnc enc kd) (U : UI P kt kd) (w : World) : (Instr.findKey kt (enc k) (entsF (fun x => enc (kf x)) g 0 xs)).run P w = .ok ((kAt kf k xs).map fun p => (p.1, g p.2)) w := by
  have h := MapKept.run_findKey (P := P) (w := w) U.eq (findNow_ents (g := g) (kf := kf) (k := k) KE xs 0 0)
  simpa only [Nat.zero_add] using h
theorem OpJ.lookup2 {zv : Value} (KE : KeyEnc enc kd) (Mp : MPI P t kt et) (U : UI P kt kd) (Z : ZVI P et zv) (hx : E.ev x = some (.map (some b))) (hy : E.ev y = some (enc k)) (p : Pick L (amap b (fun x => enc (kf x)) g xs) M)
    (h : K (.tuple ⟨[match kAt kf k xs with | some q => g q.2 | none => zv, .bool (kAt kf k xs).isSome]⟩) L) : OpJ P β E L ⟨d, .lookup t x y true, ty, pos, af, gd⟩ K :=
  OpJ.same (fun a w ha hs => by
    have hb := hs.heap p
    have hf := run_findKey_ents (g := g) (kf := kf) (k := k) (xs := xs) KE U w
    simp only [execOp, ha.ev hx, ha.ev hy, Instr.lookup, Sem.run_bind, Sem.run_pure, run_underlying Mp.eq, MapKept.run_getObj_map hb, MapKept.run_checkKey U.eq (KE.isk k), ents, hf, Result.andThen]
    cases hk : kAt kf k xs with
    | none => simp [hk, Z.run, Result.andThen]
    | some q => simp [hk, Result.andThen]) h
theorem OpJ.lookup1 {zv : Value} (KE : KeyEnc enc kd) (Mp : MPI P t kt et) (U : UI P kt kd) (Z : ZVI P et zv) (hx : E.ev x = some (.map (some b))) (hy : E.ev y = some (enc k)) (p : Pick L (amap b (fun x => enc (kf x)) g xs) M)
    (h : K (match kAt kf k xs with | some q => g q.2 | none => zv) L) : OpJ P β E L ⟨d, .lookup t x y false, ty, pos, af, gd⟩ K :=
  OpJ.same (fun a w ha hs => by
    have hb := hs.heap p
    have hf := run_findKey_ents (g := g) (kf := kf) (k := k) (xs := xs) KE U w
    simp only [execOp, ha.ev hx, ha.ev hy, Instr.lookup, Sem.run_bind, Sem.run_pure, run_underlying Mp.eq, MapKept.run_getObj_map hb, MapKept.run_checkKey U.eq (KE.isk k), ents, hf, Result.andThen]
    cases hk : kAt kf k xs with
    | none => simp [hk, Z.run, Result.andThen]
    | some q => simp [hk, Result.andThen]) h
theorem OpJ.mapUpdate (y0 : α) (KE : KeyEnc enc kd) (Mp : MPI P t kt et) (U : UI P kt kd) (hx : E.ev x = some (.map (some b))) (hy : E.ev y = some (enc (kf y0))) (hz : E.ev z = some (g y0))
    (u : Upd L (amap b (fun x => enc (kf x)) g xs) (amap b (fun x => enc (kf x)) g (kSet kf y0 xs)) L') (h : K undef L') : OpJ P β E L ⟨d, .mapUpdate t x y z, ty, pos, af, gd⟩ K :=
  OpJ.skips (fun a w ha hs => by
    obtain ⟨M', g1, g2⟩ := u.star
    have hs' : Has β (star (pt b (.map (ents (fun x => enc (kf x)) g xs) xs.length)) (stars M')) w := hs.mono g1
    have hb : w.heap[b]? = some (.map (ents (fun x => enc (kf x)) g xs) xs.length) := Sat.heap (L := _ :: M') hs' .here
    have hf := run_findKey_ents (g := g) (kf := kf) (k := kf y0) (xs := xs) KE U w
    refine ⟨{ w with heap := w.heap.setIfInBounds b (.map (ents (fun x => enc (kf x)) g (kSet kf y0 xs)) (kSet kf y0 xs).length) }, ?_, Has.mono (Has.setObj (o' := .map (ents (fun x => enc (kf x)) g (kSet kf y0 xs)) (kSet kf y0 xs).length) hs' rfl rfl rfl rfl) g2⟩
    simp only [execOp, ha.ev hx, ha.ev hy, ha.ev hz, Instr.mapUpdate, Sem.run_bind, Sem.run_pure, run_underlying Mp.eq, MapKept.run_getObj_map hb, MapKept.run_checkKey U.eq (KE.isk _), ents, hf, Result.andThen, kSet]
    cases hk : kAt kf (kf y0) xs with
    | none =>
      simp only [Option.map_none, MapKept.run_setObj_map _ hb, entsF_app, Nat.zero_add, List.length_append, List.length_cons, List.length_nil, List.push_toArray]
    | some q =>
      obtain ⟨hq, hkq⟩ := kAt_some hk
      have hlt := (List.getElem?_eq_some_iff.1 hq).1
      have he : (entsF (fun x => enc (kf x)) g 0 xs)[q.1]? = some ⟨enc (kf y0), g q.2, q.1⟩ := by rw [entsF_get, hq]; simp [hkq]
      simp only [Option.map_some, Nat.zero_add, List.getElem?_toArray, he, Option.getD_some, Sem.run_bind, MapKept.run_keyThatStays (KE.isk _), MapKept.run_setObj_map _ hb, Result.andThen, List.length_set]
      congr 4
      rw [entsF_set _ _ _ _ hlt]
      apply Array.toList_inj.1
      apply List.ext_getElem?
      intro j
      simp only [Array.getElem?_toList, Array.getElem?_modify, List.getElem?_set, List.getElem?_toArray]
      by_cases hj : q.1 = j
      · subst hj; have hb' := (List.getElem?_eq_some_iff.1 he).2; simp [he, entsF_len, hlt, hb']
      · simp [hj]) h
end
abbrev iter (b n : Nat) (seen : Array Nat) : Obj := .mapIter (some b) n seen n
theorem OpJ.range (Mp : MPI P t kt et) (hx : E.ev x = some (.map (some b))) (p : Pick L (amap b f g xs) M)
    (h : ∀ r, K (.pointer (some ⟨r, 0, none⟩)) (pt r (iter b xs.length #[]) :: L)) : OpJ P β E L ⟨d, .range t x, ty, pos, af, gd⟩ K :=
  OpJ.vals fun a w ha hs => by
    have hb := hs.heap p
    refine ⟨.pointer (some ⟨w.heap.size, 0, none⟩), pt w.heap.size (iter b xs.length #[]) :: L, w.alloc (iter b xs.length #[]), ?_, Has.alloc hs _, h w.heap.size⟩
    simp only [execOp, ha.ev hx, Sem.run_bind, Sem.run_pure, run_range_map w t kt et b _ _ Mp.eq hb, Result.andThen]
theorem run_next_at (w : World) (ty : TypeId) {r b n : Nat} {seen : Array Nat} {es : Array MapEntry} (hr : w.heap[r]? = some (iter b n seen)) (hb : w.heap[b]? = some (.map es n)) (hold : ∀ x ∈ es.toList, x.born < n) :
    ((leftOf es seen).size = 0 ∧ (Instr.next (.pointer (some ⟨r, 0, none⟩)) false ty).run P w = .ok (.tuple #[.bool false]) w) ∨
    ∃ e ∈ (leftOf es seen).toList, ∃ w1 : World, (w1 = w ∨ w1 = w.drew) ∧ (Instr.next (.pointer (some ⟨r, 0, none⟩)) false ty).run P w = .ok (.tuple #[.bool true, e.key, e.val]) { w1 with heap := w1.heap.setIfInBounds r (iter b n (seen.push e.born)) } := by
  simp only [Instr.next, getObj, Sem.run_bind, Sem.run, hr, hb, Result.andThen, next_test_false seen es n n hold (Nat.le_refl _), Bool.false_eq_true, if_false]
  unfold leftOf
  have hmem : ∀ x ∈ (Array.filter (fun e => !seen.contains e.born) es).toList, x.born < n := fun x hx => hold x (by simp at hx ⊢; exact hx.1)
  generalize Array.filter (fun e => !seen.contains e.born) es = L at hmem ⊢
  have e1 : L.filter (fun x => decide (x.born < n)) = L := Array.filter_eq_self.2 (fun x hx => by simpa using hmem x (by simpa using hx))
  have e2 : L.filter (fun x => decide (x.born ≥ n)) = #[] := by
    rw [Array.filter_eq_empty_iff]
    intro x hx
    have := hmem x (by simpa using hx)
    simp
    omega
  simp only [e1, e2, Array.append_empty]
  by_cases h0 : L.size = 0
  · left
    have : L = #[] := Array.eq_empty_of_size_eq_zero h0
    subst this
    refine ⟨rfl, ?_⟩
    simp [choose, Sem.run, Question.forced]
  · right
    have hne : L.isEmpty = false := by simp [Array.isEmpty, h0]
    simp only [hne, Bool.false_eq_true, if_false, Array.empty_append, Array.size_map]
    have hch : ∃ (j : Nat) (w1 : World), j < L.size ∧ (w1 = w ∨ w1 = w.drew) ∧ (choose (Question.mapNext L.size)).run P w = .ok j w1 := by
      by_cases hf : L.size ≤ 1
      · exact ⟨0, w, by omega, .inl rfl, by simp [choose, Sem.run, Question.forced, hf]⟩
      · exact ⟨_, w.drew, Nat.mod_lt _ (by omega), .inr rfl, by
          simp only [choose, Sem.run, Question.forced, decide_eq_true_eq, hf, if_false, Question.cut]
          rfl⟩
    obtain ⟨j, w1, hj, hw1, hrun⟩ := hch
    refine ⟨L[j], by simp, w1, hw1, ?_⟩
    have hr1 : w1.heap[r]? = some (iter b n seen) := by rcases hw1 with rfl | rfl <;> exact hr
    have hset : (setObj r (iter b n (seen.push L[j].born))).run P w1 = .ok () { w1 with heap := w1.heap.setIfInBounds r (iter b n (seen.push L[j].born)) } := by
      simp only [setObj, Sem.run, hr1]
    simp only [hrun, Array.getElem?_map, Array.getElem?_eq_getElem hj, Option.map_some, Sem.run_bind, hset, Result.andThen]
    rfl
theorem OpJ.next {r : Nat} {seen : Array Nat} {Ls : Array Nat → List HP} (hx : E.ev x = some (.pointer (some ⟨r, 0, none⟩))) (p : Pick L (amap b f g xs) M) (u : ∀ s, Upd L (pt r (iter b xs.length seen)) (pt r (iter b xs.length s)) (Ls s))
    (h0 : (∀ i, i < xs.length → i ∈ seen) → K (.tuple ⟨[.bool false]⟩) L) (h1 : ∀ i y, xs[i]? = some y → i ∉ seen → K (.tuple ⟨[.bool true, f y, g y]⟩) (Ls (seen.push i))) : OpJ P β E L ⟨d, .next x false, ty, pos, af, gd⟩ K :=
  OpJ.vals fun a w ha hs => by
    have hb := hs.heap p
    obtain ⟨M1, g1, _⟩ := (u #[]).star
    have hs1 : Has β (star (pt r (iter b xs.length seen)) (stars M1)) w := hs.mono g1
    have hr : w.heap[r]? = some (iter b xs.length seen) := Sat.heap (L := _ :: M1) hs1 .here
    have hold : ∀ e ∈ (ents f g xs).toList, e.born < xs.length := fun e he => by
      obtain ⟨i, y, hy, rfl⟩ := entsF_mem he
      have := (List.getElem?_eq_some_iff.1 hy).1
      show 0 + i < _; omega
    rcases run_next_at (P := P) w ty hr hb hold with ⟨hz, hrun⟩ | ⟨e, he, w1, hw1, hrun⟩
    · refine ⟨_, L, w, by simp only [execOp, ha.ev hx, Sem.run_bind, Sem.run_pure, hrun, Result.andThen], hs, h0 fun i hi => ?_⟩
      have hall := all_seen _ _ hz
      obtain ⟨y, hy⟩ : ∃ y, xs[i]? = some y := ⟨_, List.getElem?_eq_getElem hi⟩
      have hm : (⟨f y, g y, 0 + i⟩ : MapEntry) ∈ (ents f g xs).toList := List.mem_of_getElem? (by show (entsF f g 0 xs)[i]? = _; rw [entsF_get, hy]; rfl)
      have := hall _ hm
      simpa using this
    · obtain ⟨hm, hns⟩ := mem_left he
      obtain ⟨i, y, hy, rfl⟩ := entsF_mem hm
      have hsn : i ∉ seen := by simpa using hns
      obtain ⟨M2, g2, g3⟩ := (u (seen.push i)).star
      have hs2 : Has β (star (pt r (iter b xs.length seen)) (stars M2)) w := hs.mono g2
      have hs3 : Has β (star (pt r (iter b xs.length seen)) (stars M2)) w1 := by rcases hw1 with rfl | rfl; exact hs2; exact hs2.drew
      refine ⟨_, Ls (seen.push i), { w1 with heap := w1.heap.setIfInBounds r (iter b xs.length (seen.push i)) }, ?_, Has.mono (Has.setObj (o' := iter b xs.length (seen.push i)) hs3 rfl rfl rfl rfl) g3, h1 i y hy hsn⟩
      simp only [execOp, ha.ev hx, Sem.run_bind, Sem.run_pure, hrun, Result.andThen, Nat.zero_add]
theorem OpJ.entry {r i : Nat} {seen : Array Nat} {y : α} (hx : E.ev x = some (.pointer (some ⟨r, 0, none⟩))) (p : Pick L (amap b f g xs) M) (q : Pick L (pt r (iter b xs.length (seen.push i))) M') (hy : xs[i]? = some y)
    (h : K (.tuple ⟨[f y, g y]⟩) L) : OpJ P β E L ⟨d, .entry x, ty, pos, af, gd⟩ K :=
  OpJ.same (fun a w ha hs => by
    have hb := hs.heap p
    have hr := hs.heap q
    have hm : (⟨f y, g y, i⟩ : MapEntry) ∈ entsF f g 0 xs := List.mem_of_getElem? (by rw [entsF_get, hy]; simp)
    have hf : (entsF f g 0 xs).toArray.find? (fun x => x.born == i) = some ⟨f y, g y, i⟩ := by
      rw [← Array.find?_toList]; exact find_born (⟨f y, g y, i⟩ : MapEntry) _ (entsF_nodup xs 0).1 hm
    simp only [execOp, ha.ev hx, Sem.run_bind, Sem.run_pure, Instr.entry, getObj, Sem.run, hr, hb, ents, Result.andThen, Array.back?_push, bne_self_eq_false, Bool.false_eq_true, if_false, hf]) h
end
end Go.SL

namespace Go.SL
open Go
section
variable {P : Program} {β : Base} {E : Env} {L L' M M' : List HP} {K : Value → List HP → Prop} {d : Option Tmp} {ty : TypeId} {pos : String} {af : Array Edge} {gd : Option (Nat × Bool)} {x y z : Operand} {t kt et : TypeId}
variable {κ : Type} [DecidableEq κ] {enc : κ → Value} {k : κ} {b : Nat}
structure KeyAgg (P : Program) (kt : TypeId) {κ : Type} [DecidableEq κ] (enc : κ → Value) : Prop where
  check : ∀ (em : Bool) (n : Nat) (a : κ) (w : World), (Instr.checkKey em (n + 2) kt (enc a)).run P w = .ok () w
  under : ∃ fs, P.underlying kt = some (.struct fs)
  eq : ∀ (a c : κ) (w : World), (Op.equal kt (enc a) (enc c)).run P w = .ok (decide (a = c)) w
  stays : ∀ (a : κ) (w : World), (Instr.keyThatStays (enc a) (enc a)).run P w = .ok (enc a) w
theorem run_findAsking (KA : KeyAgg P kt enc) {α : Type} {kf : α → κ} {g : α → Value} (w : World) : ∀ (xs : List α) (n i : Nat), (Instr.findAsking kt (enc k) (entsF (fun x => enc (kf x)) g n xs) i).run P w = .ok ((kAt kf k xs).map fun p => (i + p.1, g p.2)) w
  | [], _, _ => rfl
  | x :: xs, n, i => by
    simp only [entsF, Instr.findAsking, Sem.run_bind, KA.eq, Result.andThen, kAt]
    by_cases h : k = kf x
    · simp [h]
    · have h' : ¬ kf x = k := fun e => h e.symm
      simp only [decide_eq_false h, Bool.false_eq_true, if_false, if_neg h', run_findAsking KA w xs (n + 1) (i + 1)]
      cases kAt kf k xs <;> simp; omega
theorem run_findKeyA (KA : KeyAgg P kt enc) {α : Type} {kf : α → κ} {g : α → Value} (w : World) (xs : List α) : (Instr.findKey kt (enc k) (entsF (fun x => enc (kf x)) g 0 xs)).run P w = .ok ((kAt kf k xs).map fun p => (p.1, g p.2)) w := by
  obtain ⟨fs, hfs⟩ := KA.under
  have ha := run_findAsking (k := k) (kf := kf) (g := g) KA w xs 0 0
  simp only [Nat.zero_add] at ha
  cases xs with
  | nil => simp [Instr.findKey, run_underlying hfs, entsF, Instr.findNow, kAt, Result.andThen]
  | cons x xs =>
    have hn : Instr.findNow (.struct fs) (enc k) (entsF (fun x => enc (kf x)) g 0 (x :: xs)) 0 = none := by simp [entsF, Instr.findNow, Instr.sameNow]
    simp only [Instr.findKey, Sem.run_bind, run_underlying hfs, Result.andThen, hn]
    exact ha
def look (xs : List (κ × Int)) (k : κ) : Int := match kAt (Prod.fst : κ × Int → κ) k xs with | some q => q.2.2 | none => 0
abbrev TM (enc : κ → Value) (b : Nat) (xs : List (κ × Int)) : HP := amap b (fun x => enc x.1) (fun x => Value.int .i64 x.2) xs
def tmap (enc : κ → Value) (b : Nat) (T : κ → Int) : HP := fun h => ∃ xs, (∀ k, look xs k = T k) ∧ TM enc b xs h
def tmapE (enc : κ → Value) (b : Nat) (T : κ → Int) (k : κ) (s : Nat) : HP := fun h => ∃ xs, (∀ k, look xs k = T k) ∧ (∃ q, kAt (Prod.fst : κ × Int → κ) k xs = some (s, q)) ∧ TM enc b xs h
theorem tmap.nil : ∀ h, pt b (.map #[] 0) h → tmap enc b (fun _ => 0) h := fun h hh => ⟨[], fun k => rfl, hh⟩
theorem tmapE.drop {T : κ → Int} {s : Nat} : ∀ h, tmapE enc b T k s h → tmap enc b T h := fun h ⟨xs, h1, _, h2⟩ => ⟨xs, h1, h2⟩
theorem run_forIn_unit {α : Type} {body : α → PUnit → Sem (ForInStep PUnit)} : ∀ {fs : List α} {w : World}, (∀ f ∈ fs, ∀ w, (body f ⟨⟩).run P w = .ok (.yield ⟨⟩) w) → (forIn fs PUnit.unit body).run P w = .ok ⟨⟩ w
  | [], w, _ => rfl
  | f :: fs, w, h => by
    rw [List.forIn_cons]
    simp only [Sem.run_bind, h f (List.mem_cons_self ..), Result.andThen]
    exact run_forIn_unit fun g hg => h g (List.mem_cons_of_mem _ hg)
def keyField (P : Program) (f : Field) : Option (Nat × Bool) := match P.underlying f.type with
  | some (.int .i64) => some (f.offset, true)
  | some .string => some (f.offset, false)
  | _ => none
def keyInfo (P : Program) (t : TypeId) : Option (List (Nat × Bool)) := match P.underlying t with
  | some (.struct fs) => fs.toList.mapM (keyField P)
  | _ => none
theorem keyInfo_spec {t : TypeId} {ps : List (Nat × Bool)} (h : keyInfo P t = some ps) : ∃ fs, P.underlying t = some (.struct fs) ∧ fs.toList.mapM (keyField P) = some ps := by
  unfold keyInfo at h
  split at h
  · rename_i fs hu; exact ⟨fs, hu, h⟩
  · cases h
theorem run_checkAgg {fs : Array Field} {cs : List Value} {ps : List (Nat × Bool)} (hu : P.underlying kt = some (.struct fs)) (hp : fs.toList.mapM (keyField P) = some ps)
    (hc : ∀ p ∈ ps, ∃ v, cs[p.1]? = some v ∧ MapKept.IsKey (if p.2 then .int .i64 else .string) v) (em : Bool) (n : Nat) (w : World) : (Instr.checkKey em (n + 2) kt (.agg ⟨cs⟩)).run P w = .ok () w := by
  unfold Instr.checkKey
  simp only [Sem.run_bind, run_underlying hu, Result.andThen]
  rw [← Array.forIn_toList]
  rw [run_forIn_unit (fun f hf w => ?_)]
  · rfl
  obtain ⟨i, hi⟩ := List.getElem?_of_mem hf
  obtain ⟨p, hpf, hpm⟩ : ∃ p, keyField P f = some p ∧ p ∈ ps := by
    have hm := mapM_some_get hp i
    cases hpi : keyField P f with
    | none =>
      exfalso
      have hl := mapM_some_length hp
      have : fs.toList[i]? = some f := hi
      obtain ⟨y, hy⟩ : ∃ y, ps[i]? = some y := ⟨_, List.getElem?_eq_getElem (by have := (List.getElem?_eq_some_iff.1 hi).1; omega)⟩
      have h2 := hm _ hi
      rw [hpi, hy] at h2; cases h2
    | some q => exact ⟨q, rfl, List.mem_of_getElem? (by have h2 := hm _ hi; rw [hpi] at h2; exact h2.symm)⟩
  obtain ⟨v, hv, hk⟩ := hc p hpm
  by_cases hn : f.name = "_"
  · simp [hn, Result.andThen]
  · unfold keyField at hpf
    split at hpf
    · rename_i hu2
      cases hpf
      have hv' : (⟨cs⟩ : Array Value)[f.offset]? = some v := by simpa using hv
      simp only [ne_eq, hn, not_false_eq_true, if_true, Sem.run_bind, part, isAgg, run_underlying hu2, Result.andThen, Sem.run_pure, Bool.false_eq_true, if_false, hv', MapKept.run_checkKey hu2 hk]
    · rename_i hu2
      cases hpf
      have hv' : (⟨cs⟩ : Array Value)[f.offset]? = some v := by simpa using hv
      simp only [ne_eq, hn, not_false_eq_true, if_true, Sem.run_bind, part, isAgg, run_underlying hu2, Result.andThen, Sem.run_pure, Bool.false_eq_true, if_false, hv', MapKept.run_checkKey hu2 hk]
    · cases hpf
end
section
variable {P : Program} {β : Base} {n : Nat} {ops : Array Oper} {fuel : Nat} {listed : Array Bool} {pend : Pend} {E : Env} {L L' Ls M : List HP} {K : Env → List HP → Prop}
theorem RunD.opG (i : Nat) (mask : List Bool) {o : Oper} {jg : Nat} {gb : Bool} {gd : Tmp} (hi : ops[i]? = some o) (hg : o.guard = some (jg, gb)) (hj : (ops[jg]?).bind (·.dst) = some gd) (hb : E.get gd = some (.bool gb)) (hd : dstOk n o.dst = true) (hr : Region.ready .any ops listed = [i]) (hm : maskOk ops i (pend.map (·.1)) mask = true)
    (h : OpJ P β E L o fun v L' => PendOk (applyMask mask pend) L' ∧ RunD P β n ops fuel (listed.setIfInBounds i true) (applyMask mask pend) (E.put o.dst v) L' K) : RunD P β n ops (fuel + 1) listed pend E L K := fun a w ha hs hp Q hnp hQ => by
  intro hc0
  refine ⟨?_, fun h0 => (by rw [hr] at h0; cases h0), fun j hj' => ?_⟩
  · intro p hpm
    simp only [Pend.w, List.mem_map] at hpm
    obtain ⟨q, hq, rfl⟩ := hpm
    exact hp q hq
  · rw [hr] at hj'
    obtain rfl : j = i := by simpa using hj'
    unfold wpOp
    rw [hi]
    have hw : Region.wanted o (yielded ops a.tmps) = true := by simp [Region.wanted, hg, yielded_of ha hj hb]
    simp only [hw, if_true]
    refine .inl (h a w ha.env hs _ _ fun v L' w' ⟨hpo, hK⟩ hs' => ?_)
    refine wpAnyS_sub _ _ _ _ _ _ ?_ (hK (a.put o.dst v) w' (ha.put (dstOk_spec hd) v) hs' (fun p hpm => hs'.gives (hpo p hpm)) Q hnp hQ)
    intro p hp
    rw [List.mem_filter] at hp
    obtain ⟨hp1, hp2⟩ := hp
    simp only [Pend.w, List.mem_map] at hp1 ⊢
    obtain ⟨q, hq, rfl⟩ := hp1
    exact ⟨q, maskOk_spec hm q hq (by simpa using hp2), rfl⟩
end
section
variable {P : Program} {β : Base} {n : Nat} {c : Code} {arr : Array Oper} {os : List Oper} {E : Env} {L L' : List HP} {Q : Po} {K : Env → List HP → Prop} {A B : HP}
theorem Run.imp (A B : HP) (u : Upd L A B L') (e : ∀ h, A h → B h) (h : Run P β n c E L' Q) : Run P β n c E L Q := fun a w ha hs => by
  obtain ⟨M, g1, g2⟩ := u.star
  exact h a w ha (Has.mono hs fun hp hh => g2 hp (star_mono e (fun _ => id) (g1 hp hh)))
theorem RunL.imp (A B : HP) (u : Upd L A B L') (e : ∀ h, A h → B h) (h : RunL P β n arr os E L' K) : RunL P β n arr os E L K := fun a w ha hs Q hQ => by
  obtain ⟨M, g1, g2⟩ := u.star
  exact h a w ha (Has.mono hs fun hp hh => g2 hp (star_mono e (fun _ => id) (g1 hp hh))) Q hQ
end
end Go.SL

namespace Go.SL
open Go
structure Ks where
  s : Sk
  la : Option Addr
  lc : Nat
  pa : Option Addr
  pc : Nat
def Ks.c (x : Ks) : List Value := [I x.s.qty, I x.s.value, I x.s.price, .slice x.la x.s.layers.length x.lc, .slice x.pa x.s.past.length x.pc]
structure Eg where
  k : Int
  ms : List Mv
  cs : List Co
  ord : List Int
  kp : List Ks
  last : Ks
def dnB (ms : List Mv) (v : Int) (j : Int) : Bool := decide (v < ((ms[j.toNat]?).map Mv.value).getD 0)
section
variable {P : Program} {β : Base} {n : Nat} {arr : Array Oper} {os : List Oper} {E : Env} {L L' M F As : List HP} {K : Env → List HP → Prop}
theorem RunL.packs (As : List HP) (tk : Takes L As F) (h : RunL P β n arr os E (stars As :: F) K) : RunL P β n arr os E L K := RunL.mapL (L' := stars As :: F) (fun w hs => Has.mono hs fun _ hh => tk.star hh) h
end
theorem AC.one {P : Program} {f : FuncId} {args : Array Value} {As : List HP} {v : Value} (h : AC P f args (stars As) (Ret v As)) : AC P f args (stars [stars As]) (Ret v [stars As]) :=
  AC.mono h (fun h hh => by have := stars_mk (As := As) (M := []) hh; rwa [List.append_nil] at this) (fun r h hh => ⟨hh.1, stars_un (As := As) (M := []) (by rw [List.append_nil]; exact hh.2)⟩)
structure Aj where
  seq : Int
  value : Int
  var : Int
def Aj.c (x : Aj) : List Value := [I x.seq, I x.value, I x.var]
abbrev KV := Int × Co
def tq (l : List Mv) (p : Int × Int) : Int := if refersB p.1 = true then backQ l p.1 p.2 else 0
def FineTo (ms : List Mv) (i : Nat) : Prop := ∀ (j : Nat) (m : Mv), j < i → ms[j]? = some m → m.seq = (j : Int) + 1 ∧ m.one = 0 ∧ (refersB m.kind = true → referM (ms.take j) m = 0)
def chkE (ms : List Mv) : Int := match chkM ms with | none => 0 | some p => p.2
theorem FineTo.next {ms : List Mv} {i : Nat} {m : Mv} (hf : FineTo ms i) (hx : ms[i]? = some m) (h : m.seq = (i : Int) + 1) (h1 : m.one = 0) (h2 : refersB m.kind = true → referM (ms.take i) m = 0) : FineTo ms (i + 1) := fun j y hj hy => by
  rcases Nat.lt_succ_iff_lt_or_eq.1 hj with h' | rfl
  · exact hf j y h' hy
  · rw [hx] at hy; cases hy; exact ⟨h, h1, h2⟩
theorem FineTo.qty {ms : List Mv} {i : Nat} (hf : FineTo ms i) : ∀ m ∈ ms.take i, 0 ≤ m.qty ∧ m.qty ≤ 1000000000 := fun m hm => by
  obtain ⟨j, hj⟩ := List.getElem?_of_mem hm
  have hlt : j < i := by have := (List.getElem?_eq_some_iff.1 hj).1; rw [List.length_take] at this; omega
  rw [List.getElem?_take_of_lt hlt] at hj
  have hmg := MG.of (hf j m hlt hj).2.1
  have h1 := hmg.q.1; have h2 := hmg.q.2; have h3 := hmg.k
  omega
theorem RdS.inl {A B : HP} {oa : Option Addr} {cs : List Value} (h : RdS A oa cs) : RdS (star A B) oa cs := fun hp hr => by
  obtain ⟨h1, h2, hd, rfl, ha, hb⟩ := hr
  rcases h h1 ha with h0 | ⟨b, o, e, c, t, fr, hb1, hc⟩
  · exact .inl h0
  · exact .inr ⟨b, o, e, c, t, fr, by simp only [Hp.add, hb1], hc⟩
theorem RdS.inr {A B : HP} {oa : Option Addr} {cs : List Value} (h : RdS B oa cs) : RdS (star A B) oa cs := fun hp hr => by
  obtain ⟨h1, h2, hd, rfl, ha, hb⟩ := hr
  rcases h h2 hb with h0 | ⟨b, o, e, c, t, fr, hb1, hc⟩
  · exact .inl h0
  · refine .inr ⟨b, o, e, c, t, fr, ?_, hc⟩
    rcases hd b with h' | h'
    · simp only [Hp.add, h', hb1]
    · rw [hb1] at h'; cases h'
def KsR (KL KP : HP) (x : Ks) : Prop := RdS KL x.la (x.s.layers.flatMap Ly.c) ∧ RdS KP x.pa (x.s.past.flatMap Pa.c)
theorem KsR.more {KL KP A B : HP} {x : Ks} (h : KsR KL KP x) : KsR (star A KL) (star B KP) x := ⟨h.1.inr, h.2.inr⟩
def Before (k : Int) (st : Sk) (sm : List Mv) (n : Nat) (s : Sk) : Prop := ∃ cs, runL (stepM k) st (sm.take n) = .ok (s, cs)
structure RunH (g : Eg) (st : Sk) (ms sm : List Mv) (ord : List Int) (j0 : Nat) (KL KP : HP) : Prop where
  len : ord.length = sm.length
  n : sm.length ≤ 2000
  idx : ∀ (i : Nat) (y : Int), ord[i]? = some y → ∃ (q : Nat) (m : Mv), y = (q : Int) ∧ ms[q]? = some m ∧ sm[i]? = some m
  dis : ord.Nodup
  ok : ∀ m ∈ sm, m.ok
  fr : 16 * j0 ≤ sm.length
  kpn : j0 < g.kp.length ∧ g.kp.length ≤ 1000
  kp : ∀ (j : Nat) (x : Ks), j ≤ j0 → g.kp[j]? = some x → Before g.k st sm (16 * j) x.s ∧ KsR KL KP x
  st0 : st.ok 0
def kvOf (ord : List Int) (cs : List Co) (n : Nat) : List KV := (ord.zip cs).drop n
def Grow (A B : HP) : Prop := ∀ oa cs, RdS A oa cs → RdS B oa cs
theorem KsR.grow {KL KP KL' KP' : HP} {x : Ks} (h : KsR KL KP x) (h1 : Grow KL KL') (h2 : Grow KP KP') : KsR KL' KP' x := ⟨h1 _ _ h.1, h2 _ _ h.2⟩
structure RunI (g : Eg) (st : Sk) (sm : List Mv) (j0 i : Nat) (KL0 KP0 KL KP : HP) (x : Ks) (kp : List Ks) (cs : List Co) : Prop where
  le : 16 * j0 + i ≤ sm.length
  cur : runL (stepM g.k) st (sm.take (16 * j0 + i)) = .ok (x.s, cs)
  cr : KsR KL KP x
  kl : kp.length = j0 + (i + 15) / 16
  kp : ∀ (j : Nat) (y : Ks), kp[j]? = some y → Before g.k st sm (16 * j) y.s ∧ KsR KL KP y
  gl : Grow KL0 KL
  gp : Grow KP0 KP
theorem kp_snoc {g : Eg} {st : Sk} {sm : List Mv} {j0 i : Nat} {KL0 KP0 KL KP : HP} {x : Ks} {kp : List Ks} {cs : List Co} (h : RunI g st sm j0 i KL0 KP0 KL KP x kp cs) (hm : (16 * j0 + i) % 16 = 0) : ∀ (j : Nat) (y : Ks), (kp ++ [x])[j]? = some y → Before g.k st sm (16 * j) y.s ∧ KsR KL KP y := fun j y hy => by
  by_cases hj : j < kp.length
  · rw [List.getElem?_append_left hj] at hy; exact h.kp j y hy
  · have hlt := (List.getElem?_eq_some_iff.1 hy).1
    rw [List.length_append, List.length_singleton] at hlt
    obtain rfl : j = kp.length := by omega
    rw [List.getElem?_append_right (Nat.le_refl _)] at hy
    simp at hy; subst hy
    have := h.kl
    refine ⟨?_, h.cr⟩
    rw [show 16 * kp.length = 16 * j0 + i by omega]
    exact ⟨cs, h.cur⟩
theorem RunI.next {g : Eg} {st : Sk} {sm : List Mv} {j0 i : Nat} {KL0 KP0 KL KP A B : HP} {x x' : Ks} {kp kp' : List Ks} {cs : List Co} {m : Mv} {c : Co} (h : RunI g st sm j0 i KL0 KP0 KL KP x kp cs) (hx : sm[16 * j0 + i]? = some m) (hst : stepM g.k x.s m = .ok (x'.s, c))
    (hA : RdS A x'.la (x'.s.layers.flatMap Ly.c)) (hB : RdS B x'.pa (x'.s.past.flatMap Pa.c)) (hk : (16 * j0 + i) % 16 = 0 ∧ kp' = kp ++ [x] ∨ (16 * j0 + i) % 16 ≠ 0 ∧ kp' = kp) : RunI g st sm j0 (i + 1) KL0 KP0 (star A KL) (star B KP) x' kp' (cs ++ [c]) := by
  have hl := (List.getElem?_eq_some_iff.1 hx).1
  have hkl := h.kl
  refine ⟨by omega, runL_snoc h.cur hx hst, ⟨hA.inl, hB.inl⟩, ?_, fun j y hy => ?_, fun oa cs hr => (h.gl oa cs hr).inr, fun oa cs hr => (h.gp oa cs hr).inr⟩
  · rcases hk with ⟨h1, rfl⟩ | ⟨h1, rfl⟩
    · rw [List.length_append, List.length_singleton]; omega
    · omega
  · rcases hk with ⟨h1, rfl⟩ | ⟨h1, rfl⟩
    · have := kp_snoc h h1 j y hy; exact ⟨this.1, this.2.more⟩
    · have := h.kp j y hy; exact ⟨this.1, this.2.more⟩
theorem RunI.start {g : Eg} {st : Sk} {ms sm : List Mv} {ord : List Int} {j0 : Nat} {KL KP : HP} {x : Ks} {cs : List Co} (H : RunH g st ms sm ord j0 KL KP) (hx : g.kp[j0]? = some x) (hb : runL (stepM g.k) st (sm.take (16 * j0)) = .ok (x.s, cs)) : RunI g st sm j0 0 KL KP KL KP x (g.kp.take j0) cs := by
  have hk := H.kpn
  refine ⟨H.fr, hb, (H.kp j0 x (Nat.le_refl _) hx).2, by rw [List.length_take]; omega, fun j y hy => ?_, fun _ _ h => h, fun _ _ h => h⟩
  have hj : j < j0 := by have := (List.getElem?_eq_some_iff.1 hy).1; rw [List.length_take] at this; omega
  rw [List.getElem?_take_of_lt hj] at hy
  exact H.kp j y (by omega) hy
structure RunF (g : Eg) (st : Sk) (sm : List Mv) (KL0 KP0 KL KP : HP) (x : Ks) (kp : List Ks) : Prop where
  kl : kp.length = sm.length / 16 + 1
  kp : ∀ (j : Nat) (y : Ks), kp[j]? = some y → Before g.k st sm (16 * j) y.s ∧ KsR KL KP y
  cr : KsR KL KP x
  gl : Grow KL0 KL
  gp : Grow KP0 KP
structure RunO where
  bm : Nat
  ka : Option Addr
  kc : Nat
  x : Ks
  kp : List Ks
  KL : HP
  KP : HP
end Go.SL

namespace Go.SL
open Go Go.Proofs Go.Shelf Go.Lib
theorem cell_blk {w : World} {b : Nat} {cs : List Value} {t : TypeId} (hb : w.heap[b]? = some (blk cs t)) {j : Nat} {u : Value} (hj : cs[j]? = some u) : w.cell? ⟨b, j, none⟩ = some u := by
  have hb' : w.heap[b]? = some (.cells ⟨cs⟩ t (0, 0)) := hb
  simp [World.cell?, hb', hj]
theorem frozen_blk {w : World} {b o : Nat} {cs : List Value} {t : TypeId} (hb : w.heap[b]? = some (blk cs t)) : w.frozen? ⟨b, o, none⟩ = false := by
  have hb' : w.heap[b]? = some (.cells ⟨cs⟩ t (0, 0)) := hb
  simp [World.frozen?, hb']
theorem Has.pt_heap {β : Base} {A : HP} {w : World} {b : Nat} {o : Obj} (hs : Has β (star (pt b o) A) w) : w.heap[b]? = some o := by
  obtain ⟨⟨hp, ⟨h1, h2, _, rfl, h1p, _⟩, hsub, _⟩, _⟩ := hs
  exact hsub b _ (by simp [Hp.add, h1p b])
def insN (os : List Int) (i : Nat) (v : Int) : List Int := os.take i ++ v :: os.drop i
theorem insN_len {os : List Int} {i : Nat} {v : Int} (hi : i ≤ os.length) : (insN os i v).length = os.length + 1 := by simp [insN]; omega
section
variable {P : Program} {ρ : Ren}
end
end Go.SL

namespace Go.SL
open Go
section
variable {P : Program} {β : Base} {E : Env} {L L' M M' : List HP} {K : Value → List HP → Prop} {d : Option Tmp} {ty : TypeId} {pos : String} {af : Array Edge} {g : Option (Nat × Bool)} {x y : Operand} {t t' : TypeId} {e : TypeId} {k i : Nat} {α : Type} {enc : α → List Value}
def cutA (k : Nat) (oa : Option Addr) (c i : Nat) : Option Addr := oa.map fun a => if c = i then a else a.add (i * k)
theorem DetJ.sliceLoA {oa : Option Addr} {l c : Nat} {oh : Operand} (S : SI P t e k) (hx : E.ev x = some (.slice oa l c)) (hh : E.ev oh = some (.int .i64 (i : Int))) (hi : i ≤ l) :
    DetJ P β E L ⟨d, .slice t x (some oh) none none, ty, pos, af, g⟩ (.slice (cutA k oa c i) (l - i) (c - i)) :=
  fun a w ha _ => by
    simp only [execOp, Option.map_none, Option.map_some, ha.ev hx, ha.ev hh, Instr.sliceAt, Instr.slice]
    simp [run_underlying S.under, Instr.sliceBounds, Instr.sliceBound, asIntOf, hi, S.run_size, cutA]
    cases oa with
    | none => simp
    | some a => simp; split <;> rfl
theorem RdS.cut {R : HP} {oa : Option Addr} {c : Nat} {xs : List α} (hr : RdS R oa (xs.flatMap enc)) (hk : ∀ x, (enc x).length = k) (i : Nat) (hi : xs.length ≤ c) : RdS R (cutA k oa c i) ((xs.drop i).flatMap enc) := fun h hh => by
  by_cases hic : c = i
  · left; rw [List.drop_of_length_le (by omega)]; rfl
  · rcases hr h hh with h0 | ⟨b', o, rfl, cs, t, fr, hb, hc⟩
    · left; rw [flat_drop hk, h0]; simp
    · right
      refine ⟨b', o + i * k, ?_, cs, t, fr, hb, fun j v hj => ?_⟩
      · simp only [cutA, Option.map_some, if_neg hic, Addr.add_eq]
      · rw [flat_drop hk, List.getElem?_drop] at hj
        rw [Nat.add_assoc]; exact hc _ _ hj
theorem RdS.lo {R : HP} {oa : Option Addr} {xs : List α} (hr : RdS R oa (xs.flatMap enc)) (hk : ∀ x, (enc x).length = k) (i : Nat) : RdS R oa ((xs.take i).flatMap enc) := fun h hh => by
  rcases hr h hh with h0 | ⟨b, o, e, c, t, fr, hb, hc⟩
  · left; rw [flat_take hk, h0]; simp
  · right; refine ⟨b, o, e, c, t, fr, hb, fun j v hj => hc j v ?_⟩
    rw [flat_take hk, List.getElem?_take] at hj
    split at hj
    · exact hj
    · cases hj
end
end Go.SL
namespace Go.SL
open Go
end Go.SL
namespace Go.SL
open Go
section
variable {P : Program} {β : Base} {nn : Nat} {ops : Array Oper} {fuel : Nat} {listed : Array Bool} {pend : Pend} {E : Env} {L M : List HP} {K : Env → List HP → Prop}
theorem RunD.takeGA (i : Nat) {m jg : Nat} {gb : Bool} {gd : Tmp} {ad : Addr} {R : HP} {vs : List Value} {x : Operand} {t : TypeId} {d : Option Tmp} {ty : TypeId} {pos : String} {af : Array Edge} (hi : ops[i]? = some ⟨d, .load t x, ty, pos, af, some (jg, gb)⟩) (hj : (ops[jg]?).bind (·.dst) = some gd) (hgb : E.get gd = some (.bool gb)) (hd : dstOk nn d = true)
    (hchk : (Region.noSelect ops && Region.free .any ops listed i && (Region.ready .any ops listed).contains i) = true) (T : TI P t true m) (hx : E.ev x = some (.pointer (some ad))) (p : Pick L R M) (hr : Rd R ad vs) (hn : vs.length = m)
    (h : RunD P β nn ops fuel (listed.setIfInBounds i true) ((i, [R]) :: pend) (E.put d (.agg ⟨vs⟩)) L K) : RunD P β nn ops (fuel + 1) listed pend E L K :=
  RunD.takeG (Ls := [R]) i hi rfl hj hgb hd hchk (DetJ.loadA T hx .here hr hn) (.cons p .nil) h
theorem RunD.takeGW (i : Nat) {m b jg : Nat} {gb : Bool} {gd : Tmp} {cs : List Value} {bt : TypeId} {x : Operand} {t : TypeId} {d : Option Tmp} {ty : TypeId} {pos : String} {af : Array Edge} (hi : ops[i]? = some ⟨d, .load t x, ty, pos, af, some (jg, gb)⟩) (hj : (ops[jg]?).bind (·.dst) = some gd) (hgb : E.get gd = some (.bool gb)) (hd : dstOk nn d = true)
    (hchk : (Region.noSelect ops && Region.free .any ops listed i && (Region.ready .any ops listed).contains i) = true) (T : TI P t true m) (hx : E.ev x = some (.pointer (some ⟨b, 0, none⟩))) (p : Pick L (pt b (blk cs bt)) M) (hn : cs.length = m)
    (h : RunD P β nn ops fuel (listed.setIfInBounds i true) ((i, [pt b (blk cs bt)]) :: pend) (E.put d (.agg ⟨cs⟩)) L K) : RunD P β nn ops (fuel + 1) listed pend E L K :=
  RunD.takeGA i hi hj hgb hd hchk T hx p Rd.whole hn h
theorem RunD.takeGE {α : Type} {enc : α → List Value} {e : TypeId} {k b n cap : Nat} {xs : List α} {u : α} (i : Nat) {ie m jg : Nat} {gb : Bool} {gd : Tmp} {x : Operand} {t : TypeId} {d : Option Tmp} {ty : TypeId} {pos : String} {af : Array Edge} (hi : ops[i]? = some ⟨d, .load t x, ty, pos, af, some (jg, gb)⟩) (hj : (ops[jg]?).bind (·.dst) = some gd) (hgb : E.get gd = some (.bool gb)) (hd : dstOk nn d = true)
    (hchk : (Region.noSelect ops && Region.free .any ops listed i && (Region.ready .any ops listed).contains i) = true) (T : TI P t true m) (hx : E.ev x = some (.pointer (some ⟨b, 0 + ie * k, none⟩))) (p : Pick L (own e k (some ⟨b, 0, none⟩) n cap (xs.flatMap enc)) M) (hu : xs[ie]? = some u) (hk : ∀ x, (enc x).length = k) (hm : m = k) (h0 : 0 < k)
    (h : RunD P β nn ops fuel (listed.setIfInBounds i true) ((i, [own e k (some ⟨b, 0, none⟩) n cap (xs.flatMap enc)]) :: pend) (E.put d (.agg ⟨enc u⟩)) L K) : RunD P β nn ops (fuel + 1) listed pend E L K :=
  RunD.takeGA i hi hj hgb hd hchk T hx p (own.el hu h0 hk) ((hk u).trans hm.symm) h
end
end Go.SL
namespace Go.SL
open Go
theorem RunD.takeGR1 {P : Program} {β : Base} {nn : Nat} {ops : Array Oper} {fuel : Nat} {listed : Array Bool} {pend : Pend} {E : Env} {L M : List HP} {K : Env → List HP → Prop} (i : Nat) {m jg : Nat} {gb : Bool} {gd : Tmp} {ad : Addr} {R : HP} {v : Value} {x : Operand} {t : TypeId} {d : Option Tmp} {ty : TypeId} {pos : String} {af : Array Edge} (hi : ops[i]? = some ⟨d, .load t x, ty, pos, af, some (jg, gb)⟩) (hj : (ops[jg]?).bind (·.dst) = some gd) (hgb : E.get gd = some (.bool gb)) (hd : dstOk nn d = true)
    (hchk : (Region.noSelect ops && Region.free .any ops listed i && (Region.ready .any ops listed).contains i) = true) (T : TI P t false m) (hx : E.ev x = some (.pointer (some ad))) (p : Pick L R M) (hr : Rd R ad [v])
    (h : RunD P β nn ops fuel (listed.setIfInBounds i true) ((i, [R]) :: pend) (E.put d v) L K) : RunD P β nn ops (fuel + 1) listed pend E L K :=
  RunD.takeG (Ls := [R]) i hi rfl hj hgb hd hchk (DetJ.load1 T hx .here hr) (.cons p .nil) h
end Go.SL

namespace Go.SL
open Go
class BP (b : Bool) (p q : outParam Prop) : Prop where
  t : b = true → p
  f : b = false → q
instance (priority := high) BP.dec {p : Prop} [Decidable p] : BP (decide p) p (¬ p) := ⟨of_decide_eq_true, of_decide_eq_false⟩
instance (priority := low) BP.any {b : Bool} : BP b (b = true) (b = false) := ⟨id, id⟩
structure Dts (P : Program) (β : Base) (n : Nat) (ops : Array Oper) (fuel : Nat) (listed : Array Bool) (pend : Pend) (is : List Nat) (E : Env) (L : List HP) (K : Env → List HP → Prop) : Prop where
  of : RunD P β n ops fuel listed pend E L K
section
variable {P : Program} {β : Base} {n i : Nat} {ops : Array Oper} {fuel : Nat} {listed : Array Bool} {pend : Pend} {is : List Nat} {E : Env} {L M : List HP} {H : Env → List HP → Prop} {v : Value}
theorem DetJ.pickXT {c x y : Operand} {u v : Value} {d : Option Tmp} {ty : TypeId} {pos : String} {af : Array Edge} {g : Option (Nat × Bool)} (hc : E.ev c = some u) (hu : u = .bool true) (hx : E.ev x = some v) : DetJ P β E L ⟨d, .pick c x y, ty, pos, af, g⟩ v := DetJ.pickT (hu ▸ hc) hx
theorem DetJ.pickXF {c x y : Operand} {u v : Value} {d : Option Tmp} {ty : TypeId} {pos : String} {af : Array Edge} {g : Option (Nat × Bool)} (hc : E.ev c = some u) (hu : u = .bool false) (hy : E.ev y = some v) : DetJ P β E L ⟨d, .pick c x y, ty, pos, af, g⟩ v := DetJ.pickF (hu ▸ hc) hy
theorem DetJ.notXT {x : Operand} {u : Value} {t : TypeId} {d : Option Tmp} {ty : TypeId} {pos : String} {af : Array Edge} {g : Option (Nat × Bool)} (hx : E.ev x = some u) (hu : u = .bool true) : DetJ P β E L ⟨d, .unOp .not t x, ty, pos, af, g⟩ (.bool false) := DetJ.not (b := true) (hu ▸ hx)
theorem DetJ.notXF {x : Operand} {u : Value} {t : TypeId} {d : Option Tmp} {ty : TypeId} {pos : String} {af : Array Edge} {g : Option (Nat × Bool)} (hx : E.ev x = some u) (hu : u = .bool false) : DetJ P β E L ⟨d, .unOp .not t x, ty, pos, af, g⟩ (.bool true) := DetJ.not (b := false) (hu ▸ hx)
theorem Dts.done (h : RunD P β n ops fuel listed pend E L H) : Dts P β n ops fuel listed pend [] E L H := ⟨h⟩
theorem Dts.yes {o : Oper} {jg : Nat} {gb : Bool} {gd : Tmp} {u : Value} (hi : ops[i]? = some o) (hg : o.guard = some (jg, gb)) (hj : (ops[jg]?).bind (·.dst) = some gd) (hu0 : E.get gd = some u) (hu : u = .bool gb) (hd : dstOk n o.dst = true) (hc : (Region.noSelect ops && Region.free .any ops listed i && (Region.ready .any ops listed).contains i) = true) (h : ∃ v, DetJ P β E [] o v ∧ Dts P β n ops fuel (listed.setIfInBounds i true) ((i, []) :: pend) is (E.put o.dst v) L H) :
    Dts P β n ops (fuel + 1) listed pend (i :: is) E L H := ⟨let ⟨_, hy, h⟩ := h; RunD.takeG i hi hg hj (by rw [hu0, hu]) hd hc hy .nil h.of⟩
theorem Dts.noT {o : Oper} {jg : Nat} {gd : Tmp} {u : Value} (hi : ops[i]? = some o) (hg : o.guard = some (jg, true)) (hj : (ops[jg]?).bind (·.dst) = some gd) (hu0 : E.get gd = some u) (hu : u = .bool false) (hd : dstOk n o.dst = true) (hc : (Region.noSelect ops && Region.free .any ops listed i && (Region.ready .any ops listed).contains i) = true)
    (h : Dts P β n ops fuel (listed.setIfInBounds i true) ((i, []) :: pend) is (E.put o.dst undef) L H) : Dts P β n ops (fuel + 1) listed pend (i :: is) E L H := ⟨RunD.takeN i hi hg hj (by rw [hu0, hu]; rfl) hd hc h.of⟩
theorem Dts.noF {o : Oper} {jg : Nat} {gd : Tmp} {u : Value} (hi : ops[i]? = some o) (hg : o.guard = some (jg, false)) (hj : (ops[jg]?).bind (·.dst) = some gd) (hu0 : E.get gd = some u) (hu : u = .bool true) (hd : dstOk n o.dst = true) (hc : (Region.noSelect ops && Region.free .any ops listed i && (Region.ready .any ops listed).contains i) = true)
    (h : Dts P β n ops fuel (listed.setIfInBounds i true) ((i, []) :: pend) is (E.put o.dst undef) L H) : Dts P β n ops (fuel + 1) listed pend (i :: is) E L H := ⟨RunD.takeN i hi hg hj (by rw [hu0, hu]; rfl) hd hc h.of⟩
theorem Dts.U {o : Oper} {jg : Nat} {b : Bool} {gd : Tmp} {u : Value} (hi : ops[i]? = some o) (hg : o.guard = some (jg, b)) (hj : (ops[jg]?).bind (·.dst) = some gd) (hu0 : E.get gd = some u) (hu : u = Go.undef) (hd : dstOk n o.dst = true) (hc : (Region.noSelect ops && Region.free .any ops listed i && (Region.ready .any ops listed).contains i) = true)
    (h : Dts P β n ops fuel (listed.setIfInBounds i true) ((i, []) :: pend) is (E.put o.dst undef) L H) : Dts P β n ops (fuel + 1) listed pend (i :: is) E L H := ⟨RunD.takeU i hi hg hj (by rw [hu0, hu]) hd h.of hc⟩
theorem Dts.F {b off : Nat} {cs : List Value} {bt : TypeId} {m : Nat} {x : Operand} {t : TypeId} {d : Option Tmp} {ty : TypeId} {pos : String} {af : Array Edge} (hi : ops[i]? = some ⟨d, .load t x, ty, pos, af, none⟩) (hd : dstOk n d = true) (hc : (Region.noSelect ops && Region.free .any ops listed i && (Region.ready .any ops listed).contains i) = true) (T : TI P t false m) (hx : E.ev x = some (.pointer (some ⟨b, off, none⟩))) (p : Pick L (pt b (blk cs bt)) M) (hv : cs[off]? = some v)
    (h : Dts P β n ops fuel (listed.setIfInBounds i true) ((i, [pt b (blk cs bt)]) :: pend) is (E.put d v) L H) : Dts P β n ops (fuel + 1) listed pend (i :: is) E L H := ⟨RunD.takeF i hi hd hc T hx p hv h.of⟩
theorem Dts.W {b : Nat} {cs : List Value} {bt : TypeId} {m : Nat} {x : Operand} {t : TypeId} {d : Option Tmp} {ty : TypeId} {pos : String} {af : Array Edge} (hi : ops[i]? = some ⟨d, .load t x, ty, pos, af, none⟩) (hd : dstOk n d = true) (hc : (Region.noSelect ops && Region.free .any ops listed i && (Region.ready .any ops listed).contains i) = true) (T : TI P t true m) (hx : E.ev x = some (.pointer (some ⟨b, 0, none⟩))) (p : Pick L (pt b (blk cs bt)) M) (hn : cs.length = m)
    (h : Dts P β n ops fuel (listed.setIfInBounds i true) ((i, [pt b (blk cs bt)]) :: pend) is (E.put d (.agg ⟨cs⟩)) L H) : Dts P β n ops (fuel + 1) listed pend (i :: is) E L H := ⟨RunD.takeW i hi hd hc T hx p hn h.of⟩
theorem Dts.B {zs cs : List Value} {places : List (Nat × Nat)} {xs : List (Nat × Operand)} {ps : List (Nat × Value)} {t : TypeId} {d : Option Tmp} {ty : TypeId} {pos : String} {af : Array Edge} (hi : ops[i]? = some ⟨d, .build t ⟨xs⟩, ty, pos, af, none⟩) (hd : dstOk n d = true) (hc : (Region.noSelect ops && Region.free .any ops listed i && (Region.ready .any ops listed).contains i) = true) (B : BI P t zs places) (hx : E.evp xs = some ps) (hb : bldL places zs ps = some cs)
    (h : Dts P β n ops fuel (listed.setIfInBounds i true) ((i, []) :: pend) is (E.put d (.agg ⟨cs⟩)) L H) : Dts P β n ops (fuel + 1) listed pend (i :: is) E L H := ⟨RunD.takeB i hi hd hc B hx (by rw [hb]; rfl) fun cs' h' => by cases hb.symm.trans h'; exact h.of⟩
end
end Go.SL
namespace Go.SL
open Go
section
variable {P : Program} {β : Base} {n : Nat} {ops : Array Oper} {fuel : Nat} {listed : Array Bool} {pend : Pend} {E E' : Env} {L L' : List HP} {H : Env → List HP → Prop} {Q : Po}
attribute [local irreducible] OpJ RunL Run RunD DetJ pt own star Rd RdS
end
end Go.SL

namespace Go.SL
open Go
theorem t0 {p : Prop} (h : p := by first | (simp [tup, Mv.costOk, inB, Mv.lotOk, Mv.quantityOk, Mv.rQty, backV, partN, codeB, digitB, farB, largeB, leapB, letterB, near, refersB, withinB, *]; done) | (exfalso; omega)) : p := h
theorem t1 {p : Prop} (h : p := by first | (simp [tup, Mv.one, Mv.refBad, Mv.lotOk, *]; done) | (exfalso; simp_all; done)) : p := h
theorem t2 {p : Prop} (h : p := by first | (simp [tup, Mv.one, Mv.refBad, *]; done) | (exfalso; simp_all; done)) : p := h
end Go.SL

namespace Go.SL
open Go
theorem CI.k {P : Program} {f : FuncId} (h : (P.funcs[f]?).map (fun fn => (fn.name == "runtime.NumGoroutine", fn.body.isNone)) = some (false, false) := by kernel_rfl) : CI P f := .of h
theorem TI.k {P : Program} {t : TypeId} {agg : Bool} {size : Nat} (h : tinfo P t = some (agg, size) := by kernel_rfl) : TI P t agg size := .of h
theorem FI.k {P : Program} {s ft : TypeId} {i off : Nat} (h : finfo P s i = some (ft, off, false) := by kernel_rfl) : FI P s i ft off := .of h
def KP (ks : List Nat) (H : Env → List HP → Prop) : Env → List HP → Prop := fun E L => ∃ E', E.pick ks = some E' ∧ H E' L
section
variable {P : Program} {β : Base} {n k : Nat} {arr : Array Oper} {os : List Oper} {E E' : Env} {L L' : List HP} {H : Env → List HP → Prop} {Q : Po} {y : Code} {id t : Nat}
section
variable {ops : Array Oper} {fuel : Nat} {listed : Array Bool} {pend : Pend}
end
end
section
variable {P : Program} {β : Base} {n i fuel m b : Nat} {arr ops : Array Oper} {os : List Oper} {E : Env} {L L' : List HP} {H : Env → List HP → Prop} {d : Option Tmp} {t bt ty : TypeId} {pos : String} {af : Array Edge} {x y : Operand} {zs vs cs : List Value} {v : Value} {listed : Array Bool} {pend : Pend} {ks : List Nat} {E' : Env}
attribute [local irreducible] OpJ RunL Run RunD DetJ pt own star Rd RdS
end
section
variable {P : Program} {β : Base} {n : Nat} {arr : Array Oper} {E E' : Env} {L L' : List HP} {Q : Po} {y : Code} {id : Nat}
attribute [local irreducible] OpJ RunL Run RunD DetJ pt own star Rd RdS
end
end Go.SL

namespace Go.SL
open Go
def cumM (leap : Bool) (m : Int) : Int := restM leap 1 - restM leap m
def dayF (y m d : Int) : Int := beforeF y + cumM (leapB y) m + d - 1
def ofB (y m d : Int) : Bool := decide (1900 ≤ y ∧ y ≤ 2199 ∧ 1 ≤ d ∧ d ≤ lenM (leapB y) m)
theorem cum_first {l : Bool} : cumM l 1 = 0 := by unfold cumM; omega
theorem cum_step {l : Bool} {m : Int} (h1 : 1 ≤ m) (h2 : m < 12) : cumM l (m + 1) = cumM l m + lenM l m := by
  have := rest_step (leap := l) h1 h2; unfold cumM; omega
theorem date_found {n y m k : Int} (hy : 1900 ≤ y ∧ y ≤ 2199) (hm : 1 ≤ m ∧ m ≤ 12) (hk : 0 ≤ k) (hl : ¬ lenM (leapB y) m ≤ k) (e : n = beforeF y + cumM (leapB y) m + k) : ofB y m (k + 1) = true ∧ dayF y m (k + 1) = n := by
  unfold ofB dayF; simp only [decide_eq_true_eq]; omega
def fisY (first year k : Int) : Int := year + (first - 1 + k) / 12
def fisM (first k : Int) : Int := (first - 1 + k) % 12 + 1
def yearB (first year : Int) : Bool := decide (1900 ≤ year ∧ year ≤ 2199 ∧ fisY first year 11 ≤ 2199)
def lastF (first year : Int) : Int := dayF (fisY first year 11) (fisM first 11) (lenM (leapB (fisY first year 11)) (fisM first 11))
attribute [irreducible] cumM dayF ofB yearB
end Go.SL

namespace Go.SL
section
variable {α : Type}
def asL (n : Nat) (f : Nat → α) : List α := (List.range n).map f
def swp (i j : Nat) (f : Nat → α) : Nat → α := fun k => if k = i then f j else if k = j then f i else f k
def Re (a b : Nat) (f g : Nat → α) : Prop := ∃ s t : Nat → Nat, (∀ k, s (t k) = k) ∧ (∀ k, t (s k) = k) ∧ (∀ k, ¬ (a ≤ k ∧ k < b) → s k = k) ∧ ∀ k, g k = f (s k)
theorem Re.refl {a b : Nat} {f : Nat → α} : Re a b f f := ⟨id, id, fun _ => rfl, fun _ => rfl, fun _ _ => rfl, fun _ => rfl⟩
theorem Re.trans {a b : Nat} {f g h : Nat → α} (r : Re a b f g) (q : Re a b g h) : Re a b f h := by
  obtain ⟨s, t, h1, h2, h3, h4⟩ := r
  obtain ⟨s', t', k1, k2, k3, k4⟩ := q
  refine ⟨fun k => s (s' k), fun k => t' (t k), fun k => by simp only [k1, h1], fun k => by simp only [h2, k2], fun k hk => by simp only [k3 k hk, h3 k hk], fun k => by rw [k4, h4]⟩
theorem Re.wide {a b c d : Nat} {f g : Nat → α} (r : Re a b f g) (h1 : c ≤ a) (h2 : b ≤ d) : Re c d f g := by
  obtain ⟨s, t, p, q, u, v⟩ := r
  exact ⟨s, t, p, q, fun k hk => u k (by omega), v⟩
theorem Re.out {a b k : Nat} {f g : Nat → α} (r : Re a b f g) (h : ¬ (a ≤ k ∧ k < b)) : g k = f k := by
  obtain ⟨s, t, p, q, u, v⟩ := r
  rw [v, u k h]
theorem Re.swp {a b i j : Nat} {f : Nat → α} (hi : a ≤ i ∧ i < b) (hj : a ≤ j ∧ j < b) : Re a b f (swp i j f) := by
  refine ⟨SL.swp i j id, SL.swp i j id, fun k => ?_, fun k => ?_, fun k hk => ?_, fun k => ?_⟩
  · unfold SL.swp; simp only [id]; split <;> (try split) <;> (try split) <;> (try split) <;> simp_all
  · unfold SL.swp; simp only [id]; split <;> (try split) <;> (try split) <;> (try split) <;> simp_all
  · unfold SL.swp; rw [if_neg (by omega), if_neg (by omega)]; rfl
  · unfold SL.swp; simp only [id]; split <;> (try split) <;> rfl
def So (le : α → α → Prop) (a b : Nat) (f : Nat → α) : Prop := ∀ i j, a ≤ i → i ≤ j → j < b → le (f i) (f j)
variable {le : α → α → Prop}
theorem So.sub {a b c d : Nat} {f : Nat → α} (h : So le a b f) (h1 : a ≤ c) (h2 : d ≤ b) : So le c d f := fun i j hi hij hj => h i j (by omega) hij (by omega)
theorem So.congr {a b : Nat} {f g : Nat → α} (h : So le a b f) (e : ∀ k, a ≤ k → k < b → g k = f k) : So le a b g := fun i j hi hij hj => by
  rw [e i hi (by omega), e j (by omega) hj]; exact h i j hi hij hj
def Ins (le : α → α → Prop) (a i j : Nat) (f : Nat → α) : Prop := (∀ p q, a ≤ p → p ≤ q → q ≤ i → p ≠ j → q ≠ j → le (f p) (f q)) ∧ ∀ q, j < q → q ≤ i → le (f j) (f q)
theorem Ins.start {a i : Nat} {f : Nat → α} (h : So le a i f) : Ins le a i i f := ⟨fun p q hp hpq hq h1 h2 => h p q hp hpq (by omega), fun q h1 h2 => by omega⟩
theorem Ins.step {a i j : Nat} {f : Nat → α} (h : Ins le a i j f) (ha : a < j) (hj : j ≤ i) (hl : le (f j) (f (j - 1))) : Ins le a i (j - 1) (swp j (j - 1) f) := by
  obtain ⟨h1, h2⟩ := h
  have e1 : swp j (j - 1) f j = f (j - 1) := by unfold swp; rw [if_pos rfl]
  have e2 : swp j (j - 1) f (j - 1) = f j := by unfold swp; rw [if_neg (by omega), if_pos rfl]
  have e3 : ∀ k, k ≠ j → k ≠ j - 1 → swp j (j - 1) f k = f k := fun k a b => by unfold swp; rw [if_neg a, if_neg b]
  refine ⟨fun p q hp hpq hq n1 n2 => ?_, fun q hq1 hq2 => ?_⟩
  · by_cases p1 : p = j
    · subst p1
      rw [e1]
      by_cases q1 : q = p
      · subst q1; rw [e1]; exact h1 _ _ (by omega) (Nat.le_refl _) (by omega) (by omega) (by omega)
      · rw [e3 q q1 n2]; exact h1 _ _ (by omega) (by omega) hq (by omega) q1
    · rw [e3 p p1 n1]
      by_cases q1 : q = j
      · subst q1; rw [e1]; exact h1 _ _ hp (by omega) (by omega) p1 (by omega)
      · rw [e3 q q1 n2]; exact h1 _ _ hp hpq hq p1 q1
  · rw [e2]
    by_cases q1 : q = j
    · subst q1; rw [e1]; exact hl
    · rw [e3 q q1 (by omega)]; exact h2 q (by omega) hq2
theorem Ins.done {a i j : Nat} {f : Nat → α} (tr : ∀ x y z, le x y → le y z → le x z) (rf : ∀ x, le x x) (h : Ins le a i j f) (hj : j ≤ i) (haj : a ≤ j) (hl : j = a ∨ le (f (j - 1)) (f j)) : So le a (i + 1) f := fun p q hp hpq hq => by
  obtain ⟨h1, h2⟩ := h
  by_cases p1 : p = j
  · subst p1
    by_cases q1 : q = p
    · subst q1; exact rf _
    · exact h2 q (by omega) (by omega)
  · by_cases q1 : q = j
    · subst q1
      rcases hl with e | hl
      · omega
      · by_cases p2 : p = q - 1
        · subst p2; exact hl
        · exact tr _ _ _ (h1 p (q - 1) hp (by omega) (by omega) p1 (by omega)) hl
    · exact h1 p q hp hpq (by omega) p1 q1
structure Cutd (le : α → α → Prop) (a s d e b : Nat) (g : Nat → α) : Prop where
  p1 : So le a s g
  p2 : So le s d g
  p3 : So le d e g
  p4 : So le e b g
  lr : ∀ i j, a ≤ i → i < d → d ≤ j → j < b → le (g i) (g j)
end
end Go.SL

namespace Go.SL
section
variable {α : Type} {f : Nat → α}
variable {le : α → α → Prop}
def Blk (le : α → α → Prop) (s n : Nat) (f : Nat → α) : Prop := ∀ q, So le (q * s) (min (q * s + s) n) f
def Mid (le : α → α → Prop) (s n k : Nat) (f : Nat → α) : Prop := (∀ q, q < k → So le (q * (2 * s)) (q * (2 * s) + 2 * s) f) ∧ ∀ q, 2 * k ≤ q → So le (q * s) (min (q * s + s) n) f
theorem Mid.start {s n : Nat} (h : Blk le s n f) : Mid le s n 0 f := ⟨fun q hq => by omega, fun q _ => h q⟩
theorem two_mul_mul (k s : Nat) : 2 * k * s = k * (2 * s) := by rw [Nat.mul_comm 2 k, Nat.mul_assoc]
theorem Mid.left {s n k : Nat} (h : Mid le s n k f) (hn : k * (2 * s) + s ≤ n) : So le (k * (2 * s)) (k * (2 * s) + s) f := by
  have := h.2 (2 * k) (Nat.le_refl _)
  rw [two_mul_mul, Nat.min_eq_left hn] at this
  exact this
theorem Mid.right {s n k : Nat} (h : Mid le s n k f) : So le (k * (2 * s) + s) (min (k * (2 * s) + 2 * s) n) f := by
  have := h.2 (2 * k + 1) (by omega)
  rw [Nat.add_mul, Nat.one_mul, two_mul_mul, show k * (2 * s) + s + s = k * (2 * s) + 2 * s by omega] at this
  exact this
theorem Mid.next {s n k : Nat} {g : Nat → α} (h : Mid le s n k f) (hk : k * (2 * s) + 2 * s ≤ n) (r : Re (k * (2 * s)) (k * (2 * s) + 2 * s) f g) (hs : So le (k * (2 * s)) (k * (2 * s) + 2 * s) g) : Mid le s n (k + 1) g := by
  refine ⟨fun q hq => ?_, fun q hq => ?_⟩
  · by_cases e : q = k
    · subst e; exact hs
    · have hl : q * (2 * s) + 2 * s ≤ k * (2 * s) := by
        have : (q + 1) * (2 * s) ≤ k * (2 * s) := Nat.mul_le_mul_right _ (by omega)
        rw [Nat.add_mul, Nat.one_mul] at this; exact this
      exact (h.1 q (by omega)).congr fun i h1 h2 => r.out (by omega)
  · have hl : k * (2 * s) + 2 * s ≤ q * s := by
      have : (2 * (k + 1)) * s ≤ q * s := Nat.mul_le_mul_right _ hq
      rw [two_mul_mul, Nat.add_mul, Nat.one_mul] at this; exact this
    exact (h.2 q (by omega)).congr fun i h1 h2 => r.out (by omega)
theorem Mid.done {s n k : Nat} {g : Nat → α} (h : Mid le s n k f) (hk : n < k * (2 * s) + 2 * s) (h0 : k * (2 * s) ≤ n) (r : Re (k * (2 * s)) n f g) (hs : So le (k * (2 * s)) n g) : Blk le (2 * s) n g := fun q => by
  by_cases e : q < k
  · have hl : q * (2 * s) + 2 * s ≤ k * (2 * s) := by
      have : (q + 1) * (2 * s) ≤ k * (2 * s) := Nat.mul_le_mul_right _ (by omega)
      rw [Nat.add_mul, Nat.one_mul] at this; exact this
    rw [Nat.min_eq_left (by omega)]
    exact (h.1 q e).congr fun i h1 h2 => r.out (by omega)
  · by_cases e2 : q = k
    · subst e2; rw [Nat.min_eq_right (by omega)]; exact hs
    · have hl : k * (2 * s) + 2 * s ≤ q * (2 * s) := by
        have : (k + 1) * (2 * s) ≤ q * (2 * s) := Nat.mul_le_mul_right _ (by omega)
        rw [Nat.add_mul, Nat.one_mul] at this; exact this
      intro i j h1 h2 h3
      omega
theorem Mid.tail {s n k : Nat} (h : Mid le s n k f) (h1 : n ≤ k * (2 * s) + s) (h2 : k * (2 * s) ≤ n) : So le (k * (2 * s)) n f := by
  have := h.2 (2 * k) (Nat.le_refl _)
  rw [two_mul_mul, Nat.min_eq_right h1] at this
  exact this
theorem Blk.all {s n : Nat} (h : Blk le s n f) (hs : n ≤ s) : So le 0 n f := by
  have := h 0
  rw [Nat.zero_mul, Nat.min_eq_right (by omega)] at this; exact this
theorem Blk.of {s n k : Nat} (h : ∀ q, q < k → So le (q * s) (q * s + s) f) (hk : k * s ≤ n) (hn : n < k * s + s) (hl : So le (k * s) n f) : Blk le s n f := fun q => by
  by_cases e : q < k
  · have hq : q * s + s ≤ k * s := by
      have : (q + 1) * s ≤ k * s := Nat.mul_le_mul_right _ (by omega)
      rw [Nat.add_mul, Nat.one_mul] at this; exact this
    rw [Nat.min_eq_left (by omega)]; exact h q e
  · by_cases e2 : q = k
    · subst e2; rw [Nat.min_eq_right (by omega)]; exact hl
    · have hq : k * s + s ≤ q * s := by
        have : (k + 1) * s ≤ q * s := Nat.mul_le_mul_right _ (by omega)
        rw [Nat.add_mul, Nat.one_mul] at this; exact this
      intro i j h1 h2 h3
      omega
theorem So.pair {n : Nat} (h : So le 0 n f) : (asL n f).Pairwise le := by
  unfold asL
  rw [List.pairwise_map]
  refine List.Pairwise.imp_of_mem (R := (· < ·)) (fun {a b} ha hb hab => ?_) List.pairwise_lt_range
  exact h a b (Nat.zero_le _) (Nat.le_of_lt hab) (List.mem_range.1 hb)
end
end Go.SL
namespace Go.SL
section
variable {α : Type} {f : Nat → α} {le : α → α → Prop}
theorem Cutd.left {a s d e b : Nat} {g : Nat → α} (h : Cutd le a s d e b g) (h1 : ¬ (a < s ∧ s < d)) (h2 : a ≤ s) (h3 : s ≤ d) : So le a d g := by
  by_cases e1 : a = s
  · subst e1; exact h.p2
  · have : s = d := by omega
    subst this; exact h.p1
theorem Cutd.right {a s d e b : Nat} {g : Nat → α} (h : Cutd le a s d e b g) (h1 : ¬ (d < e ∧ e < b)) (h2 : d ≤ e) (h3 : e ≤ b) : So le d b g := by
  by_cases e1 : d = e
  · subst e1; exact h.p4
  · have : e = b := by omega
    subst this; exact h.p3
end
end Go.SL

namespace Go.SL
open Go
def cmpS (a b : ByteArray) : Int := if a = b then 0 else if blt a b = true then -1 else 1
theorem cmpS_eq {a b : ByteArray} : cmpS a b = 0 ↔ a = b := by
  unfold cmpS; split
  · simp_all
  · split <;> simp_all
theorem cmpS_lt {a b : ByteArray} : cmpS a b < 0 ↔ blt a b = true := by
  unfold cmpS; split
  · rename_i h; subst h; simp [blt_irrefl]
  · split <;> simp_all
theorem cmpS_gt {a b : ByteArray} : 0 < cmpS a b ↔ blt b a = true := by
  unfold cmpS; split
  · rename_i h; subst h; simp [blt_irrefl]
  · rename_i h
    split
    · rename_i h2; simp [blt_asymm h2]
    · rename_i h2; rcases blt_total h with h3 | h3
      · exact absurd h3 h2
      · simp [h3]
def cmpL : List ByteArray → List ByteArray → Int
  | a :: r, b :: t => if cmpS a b = 0 then cmpL r t else cmpS a b
  | _, _ => 0
theorem cmpL_eq : ∀ {a b : List ByteArray}, a.length = b.length → (cmpL a b = 0 ↔ a = b)
  | [], [], _ => by simp [cmpL]
  | x :: a, y :: b, h => by
    simp only [cmpL]
    have ih := cmpL_eq (a := a) (b := b) (by simpa using h)
    split
    · rename_i h1; rw [ih]; have := cmpS_eq.1 h1; subst this; simp
    · rename_i h1; constructor
      · intro h2; exact absurd h2 h1
      · intro h2; simp only [List.cons.injEq] at h2; exact absurd (cmpS_eq.2 h2.1) h1
theorem cmpL_flip : ∀ {a b : List ByteArray}, a.length = b.length → (cmpL a b < 0 ↔ 0 < cmpL b a)
  | [], [], _ => by simp [cmpL]
  | x :: a, y :: b, h => by
    simp only [cmpL]
    have ih := cmpL_flip (a := a) (b := b) (by simpa using h)
    by_cases h1 : cmpS x y = 0
    · have := cmpS_eq.1 h1; subst this; simp only [h1, if_true]; exact ih
    · have h2 : ¬ cmpS y x = 0 := fun e => h1 (cmpS_eq.2 (cmpS_eq.1 e).symm)
      rw [if_neg h1, if_neg h2, cmpS_lt, cmpS_gt]
theorem cmpL_lt_trans : ∀ {a b c : List ByteArray}, a.length = b.length → b.length = c.length → cmpL a b < 0 → cmpL b c < 0 → cmpL a c < 0
  | [], [], [], _, _, h, _ => by simp [cmpL] at h
  | x :: a, y :: b, z :: c, h1, h2, p, q => by
    simp only [cmpL] at p q ⊢
    have ih := cmpL_lt_trans (a := a) (b := b) (c := c) (by simpa using h1) (by simpa using h2)
    by_cases e1 : cmpS x y = 0
    · have := cmpS_eq.1 e1; subst this
      simp only [e1, if_true] at p
      by_cases e2 : cmpS x z = 0
      · simp only [e2, if_true] at q ⊢; exact ih p q
      · simp only [e2, if_false] at q ⊢; exact q
    · rw [if_neg e1] at p
      by_cases e2 : cmpS y z = 0
      · have := cmpS_eq.1 e2; subst this
        rw [if_neg e1]; exact p
      · rw [if_neg e2] at q
        have hx : blt x z = true := blt_trans (cmpS_lt.1 p) (cmpS_lt.1 q)
        have e3 : ¬ cmpS x z = 0 := fun e => by have := cmpS_lt.2 hx; omega
        rw [if_neg e3]; exact cmpS_lt.2 hx
structure Ky where
  ent : ByteArray
  acc : ByteArray
  cur : ByteArray
  partner : ByteArray
  tags : ByteArray
  deriving DecidableEq
structure Cl where
  k : Ky
  amt : Int
  base : Int
  deriving DecidableEq
def Ky.c (k : Ky) : List Value := [St k.ent, St k.acc, St k.cur, St k.partner, St k.tags]
def Cl.c (x : Cl) : List Value := [St x.k.ent, St x.k.acc, St x.k.cur, St x.k.partner, St x.k.tags, I x.amt, I x.base]
def Ky.l (k : Ky) : List ByteArray := [k.ent, k.acc, k.cur, k.partner, k.tags]
theorem Ky.l_inj {a b : Ky} (h : a.l = b.l) : a = b := by
  cases a; cases b; simp only [Ky.l, List.cons.injEq, and_true] at h; simp only [Ky.mk.injEq]; exact h
def cmpK (a b : Ky) : Int := cmpL a.l b.l
theorem cmpK_eq {a b : Ky} : cmpK a b = 0 ↔ a = b := by
  unfold cmpK; rw [cmpL_eq (show a.l.length = b.l.length from rfl)]; exact ⟨Ky.l_inj, fun e => by rw [e]⟩
theorem cmpK_flip {a b : Ky} : cmpK a b < 0 ↔ 0 < cmpK b a := cmpL_flip (show a.l.length = b.l.length from rfl)
def ltK (a b : Ky) : Prop := cmpK a b < 0
theorem ltK_trans {a b c : Ky} (h1 : ltK a b) (h2 : ltK b c) : ltK a c := cmpL_lt_trans (show a.l.length = b.l.length from rfl) (show b.l.length = c.l.length from rfl) h1 h2
theorem ltK_irrefl (a : Ky) : ¬ ltK a a := fun h => by have := cmpK_eq.2 (rfl : a = a); unfold ltK at h; omega
theorem ltK_total {a b : Ky} (h : a ≠ b) : ltK a b ∨ ltK b a := by
  have h1 : cmpK a b ≠ 0 := fun e => h (cmpK_eq.1 e)
  have h2 := @cmpK_flip b a
  unfold ltK; omega
def leK (a b : Cl) : Prop := cmpK a.k b.k ≤ 0
def sumA (l : List Cl) : Int := (l.map Cl.amt).sum
def sumB (l : List Cl) : Int := (l.map Cl.base).sum
def byK (k : Ky) (l : List Cl) : List Cl := l.filter fun x => decide (x.k = k)
def ofK (l : List Cl) : List Ky → Option (List Cl)
  | [] => some []
  | k :: ks =>
    let a := sumA (byK k l); let b := sumB (byK k l)
    if withinB a = true ∧ withinB b = true then (ofK l ks).map fun s => if a = 0 ∧ b = 0 then s else ⟨k, a, b⟩ :: s else none
def insK (k : Ky) : List Ky → List Ky
  | [] => [k]
  | x :: xs => if cmpK k x < 0 then k :: x :: xs else if k = x then x :: xs else x :: insK k xs
def keysL (l : List Cl) : List Ky := l.foldl (fun ks x => insK x.k ks) []
def sheetL (l : List Cl) : Option (List Cl) := ofK l (keysL l)
theorem insK_mem {k y : Ky} : ∀ {ks : List Ky}, y ∈ insK k ks ↔ y = k ∨ y ∈ ks
  | [] => by simp [insK]
  | x :: xs => by
    simp only [insK]
    split
    · simp
    · split
      · rename_i h; subst h; simp
      · simp only [List.mem_cons, insK_mem (ks := xs)]
        constructor
        · rintro (h | h | h) <;> simp [h]
        · rintro (h | h | h) <;> simp [h]
theorem insK_pair {k : Ky} : ∀ {ks : List Ky}, ks.Pairwise ltK → (insK k ks).Pairwise ltK
  | [], _ => by simp [insK]
  | x :: xs, h => by
    simp only [insK]
    rw [List.pairwise_cons] at h
    split
    · rename_i hk
      refine List.Pairwise.cons (fun y hy => ?_) (List.Pairwise.cons h.1 h.2)
      rcases List.mem_cons.1 hy with rfl | hy
      · exact hk
      · exact ltK_trans hk (h.1 y hy)
    · split
      · exact List.Pairwise.cons h.1 h.2
      · rename_i h1 h2
        refine List.Pairwise.cons (fun y hy => ?_) (insK_pair h.2)
        rcases insK_mem.1 hy with rfl | hy
        · rcases ltK_total h2 with h3 | h3
          · exact absurd h3 h1
          · exact h3
        · exact h.1 y hy
theorem keys_fold_mem {y : Ky} : ∀ {l : List Cl} {ks : List Ky}, y ∈ l.foldl (fun ks x => insK x.k ks) ks ↔ y ∈ ks ∨ ∃ x ∈ l, x.k = y
  | [], ks => by simp
  | x :: l, ks => by
    rw [List.foldl_cons, keys_fold_mem, insK_mem]
    constructor
    · rintro ((rfl | h) | ⟨z, hz, rfl⟩)
      · exact .inr ⟨x, by simp, rfl⟩
      · exact .inl h
      · exact .inr ⟨z, by simp [hz], rfl⟩
    · rintro (h | ⟨z, hz, rfl⟩)
      · exact .inl (.inr h)
      · rcases List.mem_cons.1 hz with rfl | hz
        · exact .inl (.inl rfl)
        · exact .inr ⟨z, hz, rfl⟩
theorem keysL_mem {y : Ky} {l : List Cl} : y ∈ keysL l ↔ ∃ x ∈ l, x.k = y := by unfold keysL; rw [keys_fold_mem]; simp
theorem keys_fold_pair : ∀ {l : List Cl} {ks : List Ky}, ks.Pairwise ltK → (l.foldl (fun ks x => insK x.k ks) ks).Pairwise ltK
  | [], _, h => h
  | x :: l, ks, h => keys_fold_pair (l := l) (insK_pair h)
theorem keysL_pair (l : List Cl) : (keysL l).Pairwise ltK := keys_fold_pair List.Pairwise.nil
theorem pair_uniq : ∀ {a b : List Ky}, a.Pairwise ltK → b.Pairwise ltK → (∀ y, y ∈ a ↔ y ∈ b) → a = b
  | [], [], _, _, _ => rfl
  | [], y :: b, _, _, h => absurd ((h y).2 (by simp)) (by simp)
  | x :: a, [], _, _, h => absurd ((h x).1 (by simp)) (by simp)
  | x :: a, y :: b, ha, hb, h => by
    rw [List.pairwise_cons] at ha hb
    have exy : x = y := by
      rcases List.mem_cons.1 ((h x).1 (by simp)) with e | e
      · exact e
      · rcases List.mem_cons.1 ((h y).2 (by simp)) with e2 | e2
        · exact e2.symm
        · exact absurd (ltK_trans (ha.1 y e2) (hb.1 x e)) (ltK_irrefl _)
    subst exy
    congr 1
    refine pair_uniq ha.2 hb.2 fun z => ?_
    have hz := h z
    constructor
    · intro m
      rcases List.mem_cons.1 (hz.1 (List.mem_cons_of_mem _ m)) with e | e
      · subst e; exact absurd (ha.1 _ m) (ltK_irrefl _)
      · exact e
    · intro m
      rcases List.mem_cons.1 (hz.2 (List.mem_cons_of_mem _ m)) with e | e
      · subst e; exact absurd (hb.1 _ m) (ltK_irrefl _)
      · exact e
theorem sum_perm {a b : List Int} (h : a.Perm b) : a.sum = b.sum := by
  induction h with
  | nil => rfl
  | cons x _ ih => simp only [List.sum_cons, ih]
  | swap x y l => simp only [List.sum_cons]; omega
  | trans _ _ h1 h2 => exact h1.trans h2
theorem sumA_perm {a b : List Cl} (h : a.Perm b) : sumA a = sumA b := by
  unfold sumA; exact sum_perm (h.map _)
theorem sumB_perm {a b : List Cl} (h : a.Perm b) : sumB a = sumB b := by
  unfold sumB; exact sum_perm (h.map _)
theorem byK_perm {k : Ky} {a b : List Cl} (h : a.Perm b) : (byK k a).Perm (byK k b) := h.filter _
end Go.SL

namespace Go.SL
open Go
def adjK : List Cl → List Ky
  | [] => []
  | [x] => [x.k]
  | x :: y :: t => if x.k = y.k then adjK (y :: t) else x.k :: adjK (y :: t)
theorem adjK_mem {z : Ky} : ∀ {s : List Cl}, z ∈ adjK s ↔ ∃ x ∈ s, x.k = z
  | [] => by simp [adjK]
  | [x] => by simp [adjK, eq_comm]
  | x :: y :: t => by
    have ih := adjK_mem (z := z) (s := y :: t)
    simp only [adjK]
    split
    · rename_i h; rw [ih]
      constructor
      · rintro ⟨w, hw, e⟩; exact ⟨w, List.mem_cons_of_mem _ hw, e⟩
      · rintro ⟨w, hw, e⟩
        rcases List.mem_cons.1 hw with rfl | hw
        · exact ⟨y, by simp, by rw [← h]; exact e⟩
        · exact ⟨w, hw, e⟩
    · rw [List.mem_cons, ih]
      constructor
      · rintro (e | ⟨w, hw, e⟩)
        · exact ⟨x, by simp, e.symm⟩
        · exact ⟨w, List.mem_cons_of_mem _ hw, e⟩
      · rintro ⟨w, hw, e⟩
        rcases List.mem_cons.1 hw with rfl | hw
        · exact .inl e.symm
        · exact .inr ⟨w, hw, e⟩
theorem adjK_pair : ∀ {s : List Cl}, s.Pairwise leK → (adjK s).Pairwise ltK
  | [], _ => by simp [adjK]
  | [x], _ => by simp [adjK]
  | x :: y :: t, h => by
    rw [List.pairwise_cons] at h
    have ih := adjK_pair h.2
    simp only [adjK]
    split
    · exact ih
    · rename_i hn
      refine List.Pairwise.cons (fun z hz => ?_) ih
      obtain ⟨w, hw, rfl⟩ := adjK_mem.1 hz
      have hxy : ltK x.k y.k := by
        have h1 := h.1 y (by simp)
        unfold leK at h1; unfold ltK
        have : cmpK x.k y.k ≠ 0 := fun e => hn (cmpK_eq.1 e)
        omega
      rcases List.mem_cons.1 hw with rfl | hw
      · exact hxy
      · have h2 := (List.pairwise_cons.1 h.2).1 w hw
        unfold leK at h2
        by_cases e : cmpK y.k w.k = 0
        · rw [← cmpK_eq.1 e]; exact hxy
        · exact ltK_trans hxy (show cmpK _ _ < 0 by omega)
theorem adjK_keys {s l : List Cl} (hs : s.Pairwise leK) (hp : s.Perm l) : adjK s = keysL l :=
  pair_uniq (adjK_pair hs) (keysL_pair l) fun y => by
    rw [adjK_mem, keysL_mem]
    exact ⟨fun ⟨x, hx, e⟩ => ⟨x, hp.mem_iff.1 hx, e⟩, fun ⟨x, hx, e⟩ => ⟨x, hp.mem_iff.2 hx, e⟩⟩
theorem adjK_app {k : Ky} : ∀ {g r : List Cl}, g ≠ [] → (∀ x ∈ g, x.k = k) → (∀ y, r.head? = some y → y.k ≠ k) → adjK (g ++ r) = k :: adjK r
  | [], _, h, _, _ => absurd rfl h
  | [x], [], _, h1, _ => by simp [adjK, h1 x (by simp)]
  | [x], y :: r, _, h1, h2 => by
    have e := h1 x (by simp)
    have n := h2 y rfl
    simp only [List.singleton_append, adjK]
    rw [if_neg (by rw [e]; exact fun h => n h.symm), e]
  | x :: y :: g, r, _, h1, h2 => by
    have e1 := h1 x (by simp); have e2 := h1 y (by simp)
    have ih := adjK_app (g := y :: g) (r := r) (by simp) (fun z hz => h1 z (List.mem_cons_of_mem _ hz)) h2
    simp only [List.cons_append, adjK] at ih ⊢
    rw [if_pos (by rw [e1, e2])]; exact ih
def apart (a b : List Cl) : Prop := ∀ x ∈ a, ∀ y ∈ b, x.k ≠ y.k
theorem grp {s p g r : List Cl} {k : Ky} (hs : s.Pairwise leK) (e : s = p ++ (g ++ r)) (ha : apart p (g ++ r)) (hne : g ≠ []) (hg : ∀ x ∈ g, x.k = k) (hr : ∀ y, r.head? = some y → y.k ≠ k) :
    byK k s = g ∧ adjK (g ++ r) = k :: adjK r ∧ apart (p ++ g) r := by
  have hgr : (g ++ r).Pairwise leK := by rw [e] at hs; exact (List.pairwise_append.1 hs).2.1
  have hlt : ∀ y ∈ r, y.k ≠ k := fun y hy => by
    match r, hr, hy with
    | z :: r', hr, hy =>
      have hz := hr z rfl
      obtain ⟨x, hx⟩ := List.exists_mem_of_ne_nil g hne
      have h1 : leK x z := (List.pairwise_append.1 hgr).2.2 x hx z (by simp)
      rw [leK, hg x hx] at h1
      have h2 : cmpK k z.k < 0 := by
        have : cmpK k z.k ≠ 0 := fun e => hz (cmpK_eq.1 e).symm
        omega
      rcases List.mem_cons.1 hy with rfl | hy'
      · exact hz
      · have h3 := (List.pairwise_cons.1 (List.pairwise_append.1 hgr).2.1).1 y hy'
        intro ey
        rw [leK, ey] at h3
        have h4 := (@cmpK_flip k z.k).1 h2
        omega
  refine ⟨?_, adjK_app hne hg hr, fun x hx y hy => ?_⟩
  · unfold byK
    rw [e, List.filter_append, List.filter_append]
    have h1 : p.filter (fun x => decide (x.k = k)) = [] := List.filter_eq_nil_iff.2 fun x hx => by
      obtain ⟨y, hy⟩ := List.exists_mem_of_ne_nil g hne
      have := ha x hx y (by simp [hy])
      rw [hg y hy] at this; simpa using this
    have h2 : g.filter (fun x => decide (x.k = k)) = g := List.filter_eq_self.2 fun x hx => by simpa using hg x hx
    have h3 : r.filter (fun x => decide (x.k = k)) = [] := List.filter_eq_nil_iff.2 fun x hx => by simpa using hlt x hx
    rw [h1, h2, h3]; simp
  · rcases List.mem_append.1 hx with hx | hx
    · exact ha x hx y (by simp [hy])
    · rw [hg x hx]; exact fun e => hlt y hy e.symm
theorem ofK_cons {l : List Cl} {k : Ky} {ks : List Ky} : ofK l (k :: ks) = if withinB (sumA (byK k l)) = true ∧ withinB (sumB (byK k l)) = true then (ofK l ks).map fun s => if sumA (byK k l) = 0 ∧ sumB (byK k l) = 0 then s else ⟨k, sumA (byK k l), sumB (byK k l)⟩ :: s else none := rfl
def Cum (l s p r : List Cl) (acc : List Cl) : Prop := s.Pairwise leK ∧ s.Perm l ∧ s = p ++ r ∧ apart p r ∧ sheetL l = (ofK l (adjK r)).map (acc ++ ·)
theorem Cum.start {l s : List Cl} (hs : s.Pairwise leK) (hp : s.Perm l) : Cum l s [] s [] := by
  refine ⟨hs, hp, rfl, (fun _ h => by cases h), ?_⟩
  rw [adjK_keys hs hp]; unfold sheetL; cases ofK l (keysL l) <;> rfl
theorem Cum.step {l s p g r acc : List Cl} {k : Ky} (h : Cum l s p (g ++ r) acc) (hne : g ≠ []) (hg : ∀ x ∈ g, x.k = k) (hr : ∀ y, r.head? = some y → y.k ≠ k) :
    (¬ (withinB (sumA g) = true ∧ withinB (sumB g) = true) → sheetL l = none) ∧
    (withinB (sumA g) = true ∧ withinB (sumB g) = true → Cum l s (p ++ g) r (acc ++ if sumA g = 0 ∧ sumB g = 0 then [] else [⟨k, sumA g, sumB g⟩])) := by
  obtain ⟨h1, h2, h3, h4, h5⟩ := h
  obtain ⟨e1, e2, e3⟩ := grp h1 h3 h4 hne hg hr
  have ea : sumA (byK k l) = sumA g := by rw [← e1]; exact sumA_perm (byK_perm h2.symm)
  have eb : sumB (byK k l) = sumB g := by rw [← e1]; exact sumB_perm (byK_perm h2.symm)
  rw [e2, ofK_cons, ea, eb] at h5
  constructor
  · intro hn; rw [if_neg hn] at h5; exact h5
  · intro hw
    rw [if_pos hw] at h5
    refine ⟨h1, h2, by rw [h3, List.append_assoc], e3, ?_⟩
    rw [h5]
    cases ofK l (adjK r) with
    | none => rfl
    | some t =>
      simp only [Option.map_some]
      split <;> simp
theorem Cum.done {l s p acc : List Cl} (h : Cum l s p [] acc) : sheetL l = some acc := by
  obtain ⟨_, _, _, _, h5⟩ := h
  rw [h5]; simp [adjK, ofK]

def getA (s : List Cl) (k : Ky) : Int := sumA (byK k s)
def getB (s : List Cl) (k : Ky) : Int := sumB (byK k s)
end Go.SL

namespace Go.SL
open Go
structure Tg where
  name : ByteArray
  value : ByteArray
  deriving DecidableEq
def Tg.c (t : Tg) : List Value := [St t.name, St t.value]
structure Ln where
  acc : ByteArray
  cur : ByteArray
  amt : Int
  base : Int
  partner : ByteArray
  party : ByteArray
  ta : Option Addr
  tc : Nat
  tags : List Tg
def Ln.c (l : Ln) : List Value := [St l.acc, St l.cur, I l.amt, I l.base, St l.partner, St l.party, .slice l.ta l.tags.length l.tc]
structure En where
  no : Int
  ent : ByteArray
  book : Int
  value : Int
  kind : Int
  ref : ByteArray
  who : ByteArray
  rev : Int
  la : Option Addr
  lc : Nat
  lines : List Ln
def En.c (e : En) : List Value := [I e.no, St e.ent, I e.book, I e.value, I e.kind, St e.ref, St e.who, I e.rev, .slice e.la e.lines.length e.lc]
structure Ac where
  code : ByteArray
  parent : ByteArray
  kind : Int
  post : Bool
  cur : ByteArray
  mon : Bool
  inter : Bool
  na : Option Addr
  nc : Nat
  need : List ByteArray
def Sb (s : ByteArray) : List Value := [St s]
def Ac.c (a : Ac) : List Value := [St a.code, St a.parent, I a.kind, Bo a.post, St a.cur, Bo a.mon, Bo a.inter, .slice a.na a.need.length a.nc]
abbrev bs0 : ByteArray := ⟨#[]⟩

theorem Rd.at {α : Type} {enc : α → List Value} {R : HP} {b o i : Nat} {xs : List α} {x : α} (k : Nat) (hk : ∀ x, (enc x).length = k) (hrd : Rd R ⟨b, o, none⟩ (xs.flatMap enc)) (hx : xs[i]? = some x) (j : Nat) (v : Value) (hv : (enc x)[j]? = some v) : Rd R ⟨b, o + i * k + j, none⟩ [v] := (Rd.elem (k := k) hk hrd hx).fld hv
theorem all_false {p : UInt8 → Bool} {s : ByteArray} {i : Nat} {u : UInt8} (h : s[i]? = some u) (hb : p u = false) : s.data.toList.all p = false := by
  rw [byte_get] at h
  rw [List.all_eq_false]
  exact ⟨u, List.mem_of_getElem? h, by simp [hb]⟩
theorem all_true {p : UInt8 → Bool} {s : ByteArray} (h : ∀ (i : Nat) u, i < s.size → s[i]? = some u → p u = true) : s.data.toList.all p = true := by
  rw [List.all_eq_true]
  intro u hu
  obtain ⟨i, hi, rfl⟩ := List.getElem_of_mem hu
  refine h i _ (by simpa using hi) ?_
  rw [byte_get]; exact List.getElem?_eq_getElem hi
def prB (c : UInt8) : Bool := decide (32 ≤ (c.toNat : Int) ∧ (c.toNat : Int) ≤ 126)
def tgOk (t : Tg) : Bool := codeB t.name && codeB t.value
def okT : List Tg → Bool
  | [] => true
  | [t] => tgOk t
  | t :: u :: r => tgOk t && blt t.name u.name && okT (u :: r)
def rightB (ts : List Tg) : Bool := decide (ts.length ≤ 6) && okT ts
theorem okT_at : ∀ {ts : List Tg}, okT ts = true ↔ ∀ i t, ts[i]? = some t → tgOk t = true ∧ ∀ j u, i = j + 1 → ts[j]? = some u → blt u.name t.name = true
  | [] => by simp [okT]
  | [t] => by
    simp only [okT]
    constructor
    · intro h i u hi
      match i, hi with
      | 0, hi => simp at hi; subst hi; exact ⟨h, fun j u hj => by omega⟩
    · intro h; exact (h 0 t rfl).1
  | t :: u :: r => by
    simp only [okT, Bool.and_eq_true]
    rw [okT_at (ts := u :: r)]
    constructor
    · rintro ⟨⟨h1, h2⟩, h3⟩ i x hi
      match i, hi with
      | 0, hi => simp at hi; subst hi; exact ⟨h1, fun j u hj => by omega⟩
      | 1, hi =>
        simp at hi; subst hi
        refine ⟨(h3 0 u rfl).1, fun j y hj hy => ?_⟩
        obtain rfl : j = 0 := by omega
        simp at hy; subst hy; exact h2
      | i + 2, hi =>
        refine ⟨(h3 (i + 1) x (by simpa using hi)).1, fun j y hj hy => ?_⟩
        obtain rfl : j = i + 1 := by omega
        exact (h3 (i + 1) x (by simpa using hi)).2 i y rfl (by simpa using hy)
    · intro h
      refine ⟨⟨(h 0 t rfl).1, (h 1 u rfl).2 0 t rfl rfl⟩, fun i x hi => ⟨(h (i + 1) x (by simpa using hi)).1, fun j y hj hy => ?_⟩⟩
      exact (h (i + 1) x (by simpa using hi)).2 (j + 1) y (by omega) (by simpa using hy)
theorem okT_bad {ts : List Tg} {i : Nat} {t : Tg} (h : ts[i]? = some t) (hb : tgOk t = false) : rightB ts = false := by
  unfold rightB
  cases ho : okT ts with
  | false => rw [Bool.and_false]
  | true => have := (okT_at.1 ho i t h).1; rw [hb] at this; cases this
theorem okT_fall {ts : List Tg} {j : Nat} {t u : Tg} (h : ts[j + 1]? = some t) (hu : ts[j]? = some u) (hb : blt u.name t.name = false) : rightB ts = false := by
  unfold rightB
  cases ho : okT ts with
  | false => rw [Bool.and_false]
  | true => have := (okT_at.1 ho (j + 1) t h).2 j u rfl hu; rw [hb] at this; cases this
def okTo (ts : List Tg) (i : Nat) : Prop := ∀ k t, k < i → ts[k]? = some t → tgOk t = true ∧ ∀ j u, k = j + 1 → ts[j]? = some u → blt u.name t.name = true
theorem okTo.zero {ts : List Tg} : okTo ts 0 := fun k t h => by omega
theorem okTo.step {ts : List Tg} {i : Nat} {t : Tg} (h : okTo ts i) (ht : ts[i]? = some t) (h1 : tgOk t = true) (h2 : ∀ j u, i = j + 1 → ts[j]? = some u → blt u.name t.name = true) : okTo ts (i + 1) := fun k x hk hx => by
  by_cases e : k = i
  · subst e; rw [ht] at hx; cases hx; exact ⟨h1, h2⟩
  · exact h k x (by omega) hx
theorem okTo.all {ts : List Tg} {i : Nat} (h : okTo ts i) (hi : ts.length ≤ i) (h6 : ts.length ≤ 6) : rightB ts = true := by
  unfold rightB
  rw [decide_eq_true h6, Bool.true_and, okT_at]
  exact fun k t hk => h k t (Nat.lt_of_lt_of_le (List.getElem?_eq_some_iff.1 hk).1 hi) hk
theorem right_long {ts : List Tg} (h : ¬ ts.length ≤ 6) : rightB ts = false := by unfold rightB; rw [decide_eq_false h, Bool.false_and]
abbrev comma : ByteArray := ⟨#[44]⟩
abbrev equals : ByteArray := ⟨#[61]⟩
def textI : Nat → ByteArray → List Tg → ByteArray
  | _, s, [] => s
  | i, s, t :: r => textI (i + 1) ((if i = 0 then s else s ++ comma) ++ (t.name ++ equals ++ t.value)) r
def textL (ts : List Tg) : ByteArray := textI 0 bs0 ts
def textV (ts : List Tg) : ByteArray := if rightB ts = true then textL ts else bs0
def capB (c : UInt8) : Bool := decide (65 ≤ (c.toNat : Int) ∧ (c.toNat : Int) ≤ 90)
def curB (s : ByteArray) : Bool := decide ((s.size : Int) = 3) && s.data.toList.all capB
def optB (s : ByteArray) : Bool := decide (s = bs0) || codeB s
def wiB (n lim : Int) : Bool := decide (-lim ≤ n ∧ n ≤ lim)
def lineE (l : Ln) : Int :=
  if (!codeB l.acc || !optB l.partner || !optB l.party) = true then 7 else if (!curB l.cur) = true then 13
  else if (!wiB l.amt 1000000000000 || !wiB l.base 1000000000000) = true then 4 else if l.amt = 0 ∧ l.base = 0 then 2 else if (!rightB l.tags) = true then 14 else 0
def plainB (s : ByteArray) : Bool := decide ((s.size : Int) ≤ 60) && s.data.toList.all prB
def headE (e : En) : Int :=
  if e.no < 0 ∨ 4000 < e.no ∨ e.rev < 0 ∨ 4000 < e.rev then 3 else if (!codeB e.ent || !codeB e.who) = true then 7 else if (!inB e.book 0 109572 || !inB e.value 0 109572) = true then 11
  else if e.kind < 1 ∨ 7 < e.kind then 10 else if (!plainB e.ref) = true then 5 else if e.lines.length < 2 then 2 else if 100 < e.lines.length then 9 else 0
def ofCur (c : ByteArray) (ls : List Ln) : List Ln := ls.filter fun l => decide (l.cur = c)
def amts (ls : List Ln) : List Int := ls.map Ln.amt
def bass (ls : List Ln) : List Int := ls.map Ln.base
def balC (ls : List Ln) (c : ByteArray) : Bool := decide ((amts (ofCur c ls)).sum = 0) && decide ((bass (ofCur c ls)).sum = 0)
def balB (ls : List Ln) : Bool := ls.all fun l => balC ls l.cur
def linesE : Nat → List Ln → Option (Nat × Int)
  | _, [] => none
  | i, l :: r => if lineE l = 0 then linesE (i + 1) r else some (i, lineE l)
def chkN (e : En) : Int × Int :=
  if headE e = 0 then
    match linesE 0 e.lines with
    | some (i, x) => ((i : Int), x)
    | none => if balB e.lines = true then (-1, 0) else (-1, 15)
  else (-1, headE e)
theorem linesE_none : ∀ {ls : List Ln} {i : Nat}, (∀ l ∈ ls, lineE l = 0) → linesE i ls = none
  | [], _, _ => rfl
  | l :: r, i, h => by simp only [linesE]; rw [if_pos (h l (by simp))]; exact linesE_none fun x hx => h x (by simp [hx])
theorem linesE_at : ∀ {ls : List Ln} {i : Nat} {l : Ln} {k : Nat}, (∀ j x, j < i → ls[j]? = some x → lineE x = 0) → ls[i]? = some l → lineE l ≠ 0 → linesE k ls = some (k + i, lineE l)
  | [], _, _, _, _, h, _ => by simp at h
  | x :: r, 0, l, k, _, h, hn => by simp at h; subst h; simp only [linesE]; rw [if_neg hn]; rfl
  | x :: r, i + 1, l, k, h0, h, hn => by
    simp only [linesE]; rw [if_pos (h0 0 x (by omega) rfl)]
    rw [linesE_at (i := i) (fun j y hj hy => h0 (j + 1) y (by omega) (by simpa using hy)) (by simpa using h) hn]
    congr 2; omega
def Ln.rd (R : HP) (l : Ln) : Prop := RdS R l.ta (l.tags.flatMap Tg.c) ∧ (l.cur.size : Int) ≤ 9223372036854775807 ∧ i64 l.amt ∧ i64 l.base
def En.rd (R : HP) (e : En) : Prop := RdS R e.la (e.lines.flatMap Ln.c) ∧ ∀ l ∈ e.lines, l.rd R
theorem head_len {e : En} (h : headE e = 0) : e.lines.length ≤ 100 := by
  unfold headE at h
  repeat (split at h; · cases h)
  omega
structure Qy where
  ent : ByteArray
  from_ : Int
  to : Int
  book : Int
def Qy.c (q : Qy) : List Value := [St q.ent, I q.from_, I q.to, I q.book]
def rawL (e : En) : List Cl := e.lines.map fun l => ⟨⟨e.ent, l.acc, l.cur, l.partner, textV l.tags⟩, l.amt, l.base⟩
def selB (q : Qy) (e : En) : Bool := (decide (q.ent = bs0) || decide (q.ent = e.ent)) && decide (q.from_ ≤ e.value) && decide (e.value ≤ q.to) && decide (e.book ≤ q.book)
def cellsL (q : Qy) (l : List En) : List Cl := l.flatMap fun e => if selB q e = true then rawL e else []
def errL : List En → Int
  | [] => 0
  | e :: r => if (chkN e).2 = 0 then errL r else (chkN e).2
def replayL (l : List En) (q : Qy) : List Cl × Int :=
  if errL l = 0 then match sheetL (cellsL q l) with | some s => (s, 0) | none => ([], 4) else ([], errL l)
def getL (xs : List Ac) (code : ByteArray) : Option Ac := xs.find? fun a => decide (a.code = code)
def risB : List ByteArray → Bool
  | [] => true
  | [_] => true
  | s :: t :: r => blt s t && risB (t :: r)
def namesB (a : Ac) : Bool := a.need.all codeB && codeB a.code && optB a.parent
def aloneB (prev : List Ac) (a : Ac) : Bool := namesB a && inB a.kind 1 5 && (decide (a.cur = bs0) || curB a.cur) && (getL prev a.code).isNone && (decide (a.need.length ≤ 6) && risB a.need)
def parOf (xs : List Ac) (code : ByteArray) : ByteArray := match getL xs code with | some a => a.parent | none => bs0
def circN (xs : List Ac) (code : ByteArray) : Nat → ByteArray → Bool
  | 0, _ => false
  | n + 1, at_ => if at_ = code then true else circN xs code n (parOf xs at_)
def circB (xs : List Ac) (code : ByteArray) : Bool := circN xs code xs.length (parOf xs code)
def belowB (xs : List Ac) (a : Ac) : Bool :=
  decide (a.parent = bs0) || match getL xs a.parent with | none => false | some up => decide (up.kind = a.kind) && !up.post && !circB xs a.code
def alonesB : List Ac → List Ac → Bool
  | _, [] => true
  | p, a :: r => aloneB p a && alonesB (p ++ [a]) r
def chartB (xs : List Ac) : Bool := decide (xs.length ≤ 400) && alonesB [] xs && xs.all (belowB xs)
def pickR (xs : List Ac) : List Cl → Option (List Cl)
  | [] => some []
  | x :: r => match getL xs x.k.acc with
    | none => none
    | some a => if a.post = true then (pickR xs r).map fun s => if a.kind = 4 ∨ a.kind = 5 then x :: s else s else none
end Go.SL
