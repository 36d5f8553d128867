/- Laws of the walks and of the models, part 2 (merged by program). -/
import Derived.Test.YtncidoakeflboaaGreatDoorB1
import Derived.Laws.Externs
import Derived.Lib.Strings
import Derived.Lib.Bytealg
import Derived.Shelf.Small.Strs
import Derived.Shelf.Slices.In.SortAlone
import Derived.Shelf.Slices.In.SortNone
import Derived.Shelf.Strings.Cut
import Derived.Shelf.Strings.Search1
import Derived.Shelf.SlIter.Nil
import Derived.Lib.AppendZerosOnto
import Derived.Lib.Overlaps
import Derived.Laws.BytesArg
set_option linter.unusedVariables false
set_option linter.unusedSimpArgs false
set_option maxRecDepth 20000
set_option maxHeartbeats 4000000
namespace Go.SL
open Go
section
variable {P : Program} {β : Base} {E : Env} {L L' M M' : List HP} {K : Value → List HP → Prop} {d : Option Tmp} {ty : TypeId} {pos : String} {af : Array Edge} {gd : Option (Nat × Bool)} {x y : Operand} {t t' : TypeId} {s u : ByteArray}
theorem run_addS {w : World} (h : (s.size : Int) + u.size ≤ 9223372036854775807) : (binOp .add t (.string s) (.string u)).run P w = .ok (.string (s ++ u)) w := by
  have h1 : IntKind.i64.max = 9223372036854775807 := by rfl
  rw [binOp_string_add]
  simp only [Op.stringOp, h1]
  rw [if_neg (by omega)]; rfl
theorem OpJ.addS (hx : E.ev x = some (.string s)) (hy : E.ev y = some (.string u)) (hs : (s.size : Int) + u.size ≤ 9223372036854775807) (h : K (.string (s ++ u)) L) : OpJ P β E L ⟨d, .binOp .add t x y t', ty, pos, af, gd⟩ K :=
  OpJ.same (fun a w ha _ => by
    have := run_addS (P := P) (w := w) (t := t) hs
    simp [execOp, ha.ev hx, ha.ev hy, eqGuard, this]) h
theorem DetJ.addS (hx : E.ev x = some (.string s)) (hy : E.ev y = some (.string u)) (hs : (s.size : Int) + u.size ≤ 9223372036854775807) : DetJ P β E L ⟨d, .binOp .add t x y t', ty, pos, af, gd⟩ (.string (s ++ u)) :=
  fun a w ha _ => by
    have := run_addS (P := P) (w := w) (t := t) hs
    simp [execOp, ha.ev hx, ha.ev hy, eqGuard, this]
theorem DetJ.geqS (hx : E.ev x = some (.string s)) (hy : E.ev y = some (.string u)) : DetJ P β E L ⟨d, .binOp .geq t x y t', ty, pos, af, gd⟩ (.bool (!(Op.bytesLess s.toList u.toList))) :=
  fun a w ha _ => by simp [execOp, ha.ev hx, ha.ev hy, eqGuard, binOp, Op.stringOp]
theorem OpJ.sliceSLo {i : Nat} {oh : Operand} (U : P.underlying t = some .string) (hx : E.ev x = some (.string s)) (hh : E.ev oh = some (.int .i64 (i : Int))) (hi : i ≤ s.size) (h : K (.string (s.extract i s.size)) L) : OpJ P β E L ⟨d, .slice t x (some oh) none none, ty, pos, af, gd⟩ K :=
  OpJ.same (fun a w ha _ => by
    simp only [execOp, Option.map_none, Option.map_some, ha.ev hx, ha.ev hh, Instr.sliceAt, Instr.slice]
    simp [run_underlying U, Instr.sliceBounds, Instr.sliceBound, asIntOf, hi]) h
theorem OpJ.sliceSHi {i : Nat} {oh : Operand} (U : P.underlying t = some .string) (hx : E.ev x = some (.string s)) (hh : E.ev oh = some (.int .i64 (i : Int))) (hi : i ≤ s.size) (h : K (.string (s.extract 0 i)) L) : OpJ P β E L ⟨d, .slice t x none (some oh) none, ty, pos, af, gd⟩ K :=
  OpJ.same (fun a w ha _ => by
    simp only [execOp, Option.map_none, Option.map_some, ha.ev hx, ha.ev hh, Instr.sliceAt, Instr.slice]
    simp [run_underlying U, Instr.sliceBounds, Instr.sliceBound, asIntOf, hi]) h
theorem OpJ.rangeS (U : P.underlying t = some .string) (hx : E.ev x = some (.string s)) (h : ∀ r, K (.pointer (some ⟨r, 0, none⟩)) (pt r (.stringIter s 0) :: L)) : OpJ P β E L ⟨d, .range t x, ty, pos, af, gd⟩ K :=
  OpJ.vals fun a w ha hs => ⟨.pointer (some ⟨w.heap.size, 0, none⟩), pt w.heap.size (.stringIter s 0) :: L, w.alloc (.stringIter s 0), by
    simp only [execOp, ha.ev hx, Instr.range, Sem.run_bind, Sem.run_pure, run_underlying U, Result.andThen, newObj, Sem.run]; rfl, Has.alloc hs _, h w.heap.size⟩
theorem OpJ.nextS {r i : Nat} {Ls : Nat → List HP} (hx : E.ev x = some (.pointer (some ⟨r, 0, none⟩))) (p : Pick L (pt r (.stringIter s i)) M) (u : ∀ j, Upd L (pt r (.stringIter s i)) (pt r (.stringIter s j)) (Ls j))
    (h0 : ¬ i < s.size → K (.tuple ⟨[.bool false]⟩) L) (h1 : i < s.size → K (.tuple ⟨[.bool true, .int .i64 i, .int .i32 ((Utf8.decode s i).1 : Int)]⟩) (Ls (i + (Utf8.decode s i).2))) : OpJ P β E L ⟨d, .next x true, ty, pos, af, gd⟩ K :=
  OpJ.vals fun a w ha hs => by
    have hr : w.heap[r]? = some (.stringIter s i) := hs.heap p
    by_cases hi : i < s.size
    · obtain ⟨M2, g2, g3⟩ := (u (i + (Utf8.decode s i).2)).star
      have hs2 : Has β (star (pt r (.stringIter s i)) (stars M2)) w := hs.mono g2
      refine ⟨_, _, { w with heap := w.heap.setIfInBounds r (.stringIter s (i + (Utf8.decode s i).2)) }, ?_, Has.mono (Has.setObj (o' := .stringIter s (i + (Utf8.decode s i).2)) hs2 rfl rfl rfl rfl) g3, h1 hi⟩
      simp only [execOp, ha.ev hx, Instr.next, Sem.run_bind, Sem.run_pure, getObj, setObj, Sem.run, hr, Result.andThen, hi, if_true, goInt]
    · refine ⟨_, L, w, ?_, hs, h0 hi⟩
      simp only [execOp, ha.ev hx, Instr.next, Sem.run_bind, Sem.run_pure, getObj, Sem.run, hr, Result.andThen, hi, if_false]
end
theorem decode_ascii {s : ByteArray} {i : Nat} {u : UInt8} (h : s[i]? = some u) (hu : u.toNat < 128) : Utf8.decode s i = (u.toNat, 1) := by
  have hi : i < s.size := by
    by_cases hi : i < s.size
    · exact hi
    · rw [getElem?_neg s i hi] at h; cases h
  have hg : s.get! i = u := by
    rw [getElem?_pos s i hi] at h; cases h
    show s.data[i]! = _
    rw [getElem!_pos s.data i hi]; rfl
  unfold Utf8.decode
  simp only [Nat.add_zero, hg, hu, if_true]
theorem decode_high {s : ByteArray} {i : Nat} {u : UInt8} (h : s[i]? = some u) (hu : ¬ u.toNat < 128) : 128 ≤ (Utf8.decode s i).1 := by
  have hi : i < s.size := by
    by_cases hi : i < s.size
    · exact hi
    · rw [getElem?_neg s i hi] at h; cases h
  have hg : s.get! i = u := by
    rw [getElem?_pos s i hi] at h; cases h
    show s.data[i]! = _
    rw [getElem!_pos s.data i hi]; rfl
  unfold Utf8.decode
  simp only [Nat.add_zero, hg, hu, if_false, Utf8.runeError]
  split
  · split
    · rename_i h; exact h
    · decide
  · split
    · split
      · rename_i h; simp only [ge_iff_le, Bool.and_eq_true, decide_eq_true_eq] at h; exact Nat.le_trans (by decide) h.1
      · decide
    · split
      · split
        · rename_i h; simp only [ge_iff_le, Bool.and_eq_true, decide_eq_true_eq] at h; exact Nat.le_trans (by decide) h.1
        · decide
      · decide
end Go.SL

namespace Go.SL
open Go
section
variable {P : Program} {f : FuncId} {args : Array Value} {α γ : Type} {φ : α → Prop} {Bs : α → List HP} {Rs : List HP} {Q : Value → HP}
def boxed (φ : α → Prop) (Bs : α → List HP) : HP := hex fun x => lift (φ x) (stars (Bs x))
theorem AC.open (h : ∀ x, φ x → AC P f args (stars (Bs x ++ Rs)) Q) : AC P f args (stars (boxed φ Bs :: Rs)) Q := fun w hp hA hs => by
  obtain ⟨h1, h2, hd, rfl, ⟨x, hx, hb⟩, hr⟩ := hA
  exact h x hx w _ (stars_append ⟨h1, h2, hd, rfl, hb, hr⟩) hs
theorem boxed.mk {x : α} (hx : φ x) {h : Hp} (hs : stars (Bs x ++ Rs) h) : stars (boxed φ Bs :: Rs) h :=
  star_mono (fun _ hb => ⟨x, hx, hb⟩) (fun _ => id) (stars_un hs)
def Imp (L M : List HP) : Prop := ∀ (β : Base) (w : World), Sat β L w → Sat β M w
theorem Imp.gv {L M : List HP} (g : Gives L M) : Imp L M := fun β w hs => hs.gives g
theorem Imp.trans {L M N : List HP} (h : Imp L M) (k : Imp M N) : Imp L N := fun β w hs => k β w (h β w hs)
theorem Imp.bx {x : α} {L M : List HP} (hx : φ x) (g : Gives L (Bs x ++ Rs)) (g2 : Gives (boxed φ Bs :: Rs) M) : Imp L M := fun β w hs =>
  Sat.gives g2 (Has.mono (hs.gives g) fun _ h => boxed.mk hx h)
theorem Imp.ownNil {L : List HP} (T : TypeId) (k : Nat) : Imp L (own T k none 0 0 [] :: L) := fun β w hs => Has.ownNil hs
theorem Imp.emp {L : List HP} : Imp L (SL.emp :: L) := fun β w hs => Has.mono hs fun h hh => ⟨fun _ => none, h, fun b => .inl rfl, by funext b; simp [Hp.add], fun _ => rfl, hh⟩
theorem Has.self {A : HP} {w : World} {hp : Hp} (hA : A hp) (hs : hp.sub w) : Has ⟨w, hp⟩ A w := ⟨⟨hp, hA, hs, fun b hb => .inl hb⟩, ⟨fun _ _ _ => rfl, Nat.le_refl _, rfl, rfl, rfl⟩⟩
theorem AC.outs {As : List HP} {ψ0 : α → Prop} {R0 : α → Value} {B0 : α → List HP} {ψ : γ → Prop} {R' : γ → Value} {Cs : γ → List HP} (hc : AC P f args (stars As) (Outs ψ0 R0 B0)) (hk : ∀ y, ψ0 y → ∃ z, ψ z ∧ R0 y = R' z ∧ Imp (B0 y) (Cs z)) : AC P f args (stars As) (Outs ψ R' Cs) := fun w hp hA hs => by
  refine (hc w hp hA hs).mono ?_
  rintro e w' ⟨r, rfl, ⟨hq, ⟨y, ⟨hy, hr⟩, hB⟩, hsub, hown⟩, hrest⟩
  obtain ⟨z, hz, e2, hi⟩ := hk y hy
  exact ⟨r, rfl, (hi _ _ ⟨⟨_, hB, hsub, hown⟩, hrest⟩).mono fun _ h => ⟨z, ⟨hz, hr.trans e2⟩, h⟩⟩
end
end Go.SL

namespace Go.SL
open Go
section
variable {P : Program} {β : Base} {n : Nat} {arr : Array Oper} {os : List Oper} {E : Env} {L L' M M' : List HP} {KK : Env → List HP → Prop} {Q : Po} {α : Type} {f : α → HP} {xs : List α} {x y : α} {i : Nat}
def big (f : α → HP) (xs : List α) : HP := stars (xs.map f)
theorem big_out : ∀ {xs : List α} {i : Nat}, xs[i]? = some x → ∀ h, big f xs h → star (f x) (big f (xs.eraseIdx i)) h
  | [], _, hx, _, _ => by simp at hx
  | z :: xs, 0, hx, h, hb => by simp at hx; subst hx; exact hb
  | z :: xs, i + 1, hx, h, hb => by
    have ih := big_out (xs := xs) (i := i) (by simpa using hx)
    exact star_left (star_mono (fun _ => id) ih hb)
theorem big_in : ∀ {xs : List α} {i : Nat}, i < xs.length → ∀ h, star (f y) (big f (xs.eraseIdx i)) h → big f (xs.set i y) h
  | [], _, hx, _, _ => by simp at hx
  | z :: xs, 0, hx, h, hb => hb
  | z :: xs, i + 1, hx, h, hb => by
    have ih := big_in (xs := xs) (i := i) (by simpa using hx)
    exact star_mono (fun _ => id) ih (star_left hb)
theorem big_app : ∀ {xs : List α}, ∀ h, star (f y) (big f xs) h → big f (xs ++ [y]) h
  | [], h, hb => hb
  | z :: xs, h, hb => star_mono (fun _ => id) (big_app (xs := xs)) (star_left hb)
theorem big_nil : big f [] (fun _ => none) := fun _ => rfl
theorem big_rds {oa : Option Addr} {cs : List Value} : ∀ {xs : List α}, x ∈ xs → RdS (f x) oa cs → RdS (big f xs) oa cs
  | [], hx, _ => by cases hx
  | z :: xs, hx, hr => by
    rcases List.mem_cons.1 hx with rfl | hx
    · exact RdS.inl hr
    · exact RdS.inr (big_rds hx hr)
theorem pick_map {A B C : HP} (p : Pick L A M) (h : ∀ h, A h → star B C h) : ∀ h, stars L h → stars (B :: C :: M) h := fun hp hs => star_assoc' (star_mono h (fun _ => id) (p.star hs))
theorem pick_join {A B C : HP} (p : Pick L A M) (q : Pick M B M') (h : ∀ h, star A B h → C h) : ∀ h, stars L h → stars (C :: M') h := fun hp hs =>
  star_mono h (fun _ => id) (star_assoc (star_mono (fun _ => id) (fun _ hm => q.star hm) (p.star hs)))
theorem RunL.bigOut (p : Pick L (big f xs) M) (hx : xs[i]? = some x) (h : RunL P β n arr os E (f x :: big f (xs.eraseIdx i) :: M) KK) : RunL P β n arr os E L KK :=
  RunL.mapL (fun w hs => Has.mono hs (pick_map p (big_out hx))) h
theorem Run.bigOut {c : Code} (p : Pick L (big f xs) M) (hx : xs[i]? = some x) (h : Run P β n c E (f x :: big f (xs.eraseIdx i) :: M) Q) : Run P β n c E L Q :=
  Run.mapL (fun w hs => Has.mono hs (pick_map p (big_out hx))) h
theorem RunL.bigIn (f : α → HP) (xs : List α) (i : Nat) (y : α) (p : Pick L (f y) M) (q : Pick M (big f (xs.eraseIdx i)) M') (hi : i < xs.length) (h : RunL P β n arr os E (big f (xs.set i y) :: M') KK) : RunL P β n arr os E L KK :=
  RunL.mapL (fun w hs => Has.mono hs (pick_join p q (big_in hi))) h
theorem Run.bigIn {c : Code} (f : α → HP) (xs : List α) (i : Nat) (y : α) (p : Pick L (f y) M) (q : Pick M (big f (xs.eraseIdx i)) M') (hi : i < xs.length) (h : Run P β n c E (big f (xs.set i y) :: M') Q) : Run P β n c E L Q :=
  Run.mapL (fun w hs => Has.mono hs (pick_join p q (big_in hi))) h
theorem RunL.bigApp (f : α → HP) (xs : List α) (y : α) (p : Pick L (f y) M) (q : Pick M (big f xs) M') (h : RunL P β n arr os E (big f (xs ++ [y]) :: M') KK) : RunL P β n arr os E L KK :=
  RunL.mapL (fun w hs => Has.mono hs (pick_join p q (big_app))) h
theorem Run.bigApp {c : Code} (f : α → HP) (xs : List α) (y : α) (p : Pick L (f y) M) (q : Pick M (big f xs) M') (h : Run P β n c E (big f (xs ++ [y]) :: M') Q) : Run P β n c E L Q :=
  Run.mapL (fun w hs => Has.mono hs (pick_join p q (big_app))) h
theorem emp_big (h : Hp) (hh : stars L h) : stars (big f [] :: L) h := (⟨fun _ => none, h, fun b => .inl rfl, by funext b; simp [Hp.add], big_nil, hh⟩ : star (big f []) (stars L) h)
theorem RunL.bigNil (f : α → HP) (h : RunL P β n arr os E (big f [] :: L) KK) : RunL P β n arr os E L KK :=
  RunL.mapL (fun w hs => Has.mono hs emp_big) h
theorem Run.bigNil {c : Code} (f : α → HP) (h : Run P β n c E (big f [] :: L) Q) : Run P β n c E L Q :=
  Run.mapL (fun w hs => Has.mono hs emp_big) h
end
attribute [irreducible] big
end Go.SL

namespace Go.SL
open Go
class XI (P : Program) (f : FuncId) (e : Array Value → Sem Value) : Prop where
  fn : ∃ fn, P.funcs[f]? = some fn ∧ (fn.name == "runtime.NumGoroutine") = false ∧ fn.body.isNone = true ∧ Extern.findNext fn = none ∧ Extern.find fn = some e
section
variable {P : Program} {β : Base} {E : Env} {L : List HP} {K : Value → List HP → Prop} {d : Option Tmp} {ty : TypeId} {pos : String} {af : Array Edge} {g : Option (Nat × Bool)}
theorem OpJ.ext {f : FuncId} {e : Array Value → Sem Value} {xs : List Operand} {ats : Array TypeId} {vs : List Value} {v : Value} (X : XI P f e) (hxs : E.evs xs = some vs) (hr : ∀ w, (e ⟨vs⟩).run P w = .ok v w) (h : K v L) : OpJ P β E L ⟨d, .call ⟨.value (.func f), ⟨xs⟩, ats⟩, ty, pos, af, g⟩ K :=
  OpJ.same (fun a w ha _ => by
    obtain ⟨fn, hf, h1, h2, h3, h4⟩ := X.fn
    have hargs : Array.map a.eval ⟨xs⟩ = ⟨vs⟩ := by rw [List.map_toArray, ha.evs hxs]
    have hc := run_callFunc_extern hf h1 h2 h3 h4 ⟨vs⟩ w
    rw [hr w] at hc
    have hx : a.eval (.func f) = .func (.func f) #[] #[] := rfl
    simp [execOp, resolve, hx, Deferred.ofValue, hargs, invoke, hc, Result.andThen]) h
end
theorem run_addU {P : Program} (x y c : Int) (hx : 0 ≤ x) (hy : 0 ≤ y) (hc : 0 ≤ c ∧ c ≤ 1) (w : World) : (add64Entry ⟨[.int .u64 x, .int .u64 y, .int .u64 c]⟩).run P w = .ok (.tuple ⟨[.int .u64 ((x + y + c) % 18446744073709551616), .int .u64 ((x + y + c) / 18446744073709551616)]⟩) w := by
  have := run_add64 (P := P) x y c hx hy hc.1 hc.2 w
  rw [this]
theorem wrapU (z : Int) : IntKind.u64.wrap z = z % 18446744073709551616 := by rw [wrap_u64]
theorem shr63 {x : Int} (h : i64 x) : x.fdiv (2 ^ 63) = if x < 0 then -1 else 0 := by
  rw [Int.fdiv_eq_ediv_of_nonneg _ (by decide)]
  obtain ⟨h1, h2⟩ := h
  split <;> omega
def sumV (xs : List Int) : Int := if i64 xs.sum then xs.sum else 0
instance (n : Int) : Decidable (i64 n) := by unfold i64; exact inferInstance
def fitsV (xs : List Int) : Bool := decide (i64 xs.sum)
def Words (s lo hi : Int) : Prop := (0 ≤ lo ∧ lo < 18446744073709551616) ∧ (0 ≤ hi ∧ hi < 18446744073709551616) ∧ lo = s % 18446744073709551616 ∧ hi = (s / 18446744073709551616) % 18446744073709551616
theorem Words.zero : Words 0 0 0 := by unfold Words; omega
theorem Words.step {s lo hi x : Int} (h : Words s lo hi) (hx : i64 x) :
    Words (s + x) ((lo + x % 18446744073709551616 + 0) % 18446744073709551616) ((hi + (if x < 0 then -1 else 0) % 18446744073709551616 + (lo + x % 18446744073709551616 + 0) / 18446744073709551616) % 18446744073709551616) := by
  unfold Words i64 at *
  split <;> omega
theorem Words.fit {s lo hi : Int} (h : Words s lo hi) (hs : -170141183460469231731687303715884105728 ≤ s ∧ s < 170141183460469231731687303715884105728) :
    (i64 s ↔ (if IntKind.i64.wrap lo < 0 then -1 else 0) % 18446744073709551616 = hi) ∧ (i64 s → IntKind.i64.wrap lo = s) := by
  unfold Words i64 at *
  rw [IntKind.wrap_i64]
  constructor
  · split <;> omega
  · intro h1; omega
theorem wrap_i64 (z : Int) : i64 (IntKind.i64.wrap z) := by unfold i64; rw [IntKind.wrap_i64]; omega
theorem sum_take {xs : List Int} {i : Nat} {x : Int} (h : xs[i]? = some x) : (xs.take (i + 1)).sum = (xs.take i).sum + x := by
  rw [List.take_add_one, h, List.sum_append_int]; simp
theorem i64_sum : ∀ {xs : List Int}, (∀ x ∈ xs, i64 x) → -9223372036854775808 * (xs.length : Int) ≤ xs.sum ∧ xs.sum ≤ 9223372036854775807 * (xs.length : Int)
  | [], _ => by simp
  | x :: xs, h => by
    have h1 := h x (by simp)
    have ih := i64_sum (xs := xs) fun y hy => h y (by simp [hy])
    unfold i64 at h1
    simp only [List.sum_cons, List.length_cons, Int.natCast_add, Int.natCast_one]; omega
theorem cmpB_eq : ∀ (a b : List UInt8), Lib.compareBytes a b = if a = b then 0 else if Op.bytesLess a b = true then -1 else 1
  | [], [] => by simp [Lib.compareBytes]
  | [], _ :: _ => by simp [Lib.compareBytes, Op.bytesLess]
  | _ :: _, [] => by simp [Lib.compareBytes, Op.bytesLess]
  | a :: x, b :: y => by
    have ih := cmpB_eq x y
    have hb : Op.bytesLess (a :: x) (b :: y) = (decide (a < b) || (a == b && Op.bytesLess x y)) := rfl
    have hc : Lib.compareBytes (a :: x) (b :: y) = if a < b then -1 else if b < a then 1 else Lib.compareBytes x y := rfl
    rw [hc, ih]
    by_cases h1 : a < b
    · have hn : ¬ (a :: x = b :: y) := fun e => by simp only [List.cons.injEq] at e; rw [e.1, UInt8.lt_iff_toNat_lt] at h1; omega
      rw [if_pos h1, if_neg hn, if_pos (by rw [hb]; simp [h1])]
    · by_cases h2 : b < a
      · have hn : ¬ (a :: x = b :: y) := fun e => by simp only [List.cons.injEq] at e; rw [e.1, UInt8.lt_iff_toNat_lt] at h2; omega
        have hab : ¬ a = b := fun e => by rw [e, UInt8.lt_iff_toNat_lt] at h2; omega
        rw [if_neg h1, if_pos h2, if_neg hn, if_neg (by rw [hb]; simp [h1, hab])]
      · have hab : a = b := by
          rw [UInt8.lt_iff_toNat_lt] at h1 h2
          exact UInt8.toNat_inj.1 (by omega)
        subst hab
        rw [if_neg h1, if_neg h1]
        by_cases hxy : x = y
        · subst hxy; rw [if_pos rfl, if_pos rfl]
        · have hb2 : Op.bytesLess (a :: x) (a :: y) = Op.bytesLess x y := by rw [hb]; simp [h1]
          rw [if_neg hxy, if_neg (show ¬ (a :: x = a :: y) from fun e => hxy (by simpa using e)), hb2]
theorem cmpB_str (a b : ByteArray) : Lib.compareBytes a.data.toList b.data.toList = cmpS a b := by
  rw [cmpB_eq]
  unfold cmpS blt
  rw [ByteArray.toList_eq, ByteArray.toList_eq]
  by_cases h : a = b
  · subst h; rw [if_pos rfl, if_pos rfl]
  · have : ¬ a.data.toList = b.data.toList := fun e => h (toL_inj (by rw [ByteArray.toList_eq, ByteArray.toList_eq]; exact e))
    rw [if_neg h, if_neg this]
theorem run_cmpS {P : Program} (a b : ByteArray) (w : World) : (Extern.BytealgCompare.compare ⟨[.string a, .string b]⟩).run P w = .ok (.int .i64 (cmpS a b)) w := by
  have := Lib.run_compareString (P := P) a b w
  rw [cmpB_str] at this; exact this
theorem Ky.c_at {k : Ky} {i : Nat} {x : ByteArray} (h : k.l[i]? = some x) : k.c[i]? = some (.string x) := by
  have : k.c = k.l.map Value.string := rfl
  rw [this, List.getElem?_map, h]; rfl
theorem cmpL_same {a b : List ByteArray} {i : Nat} {x y : ByteArray} (hx : a[i]? = some x) (hy : b[i]? = some y) (h : cmpS x y = 0) : cmpL (a.drop i) (b.drop i) = cmpL (a.drop (i + 1)) (b.drop (i + 1)) := by
  obtain ⟨h1, rfl⟩ := List.getElem?_eq_some_iff.1 hx
  obtain ⟨h2, rfl⟩ := List.getElem?_eq_some_iff.1 hy
  rw [List.drop_eq_getElem_cons h1, List.drop_eq_getElem_cons h2]
  simp only [cmpL, h, if_true]
theorem cmpL_diff {a b : List ByteArray} {i : Nat} {x y : ByteArray} (hx : a[i]? = some x) (hy : b[i]? = some y) (h : ¬ cmpS x y = 0) : cmpL (a.drop i) (b.drop i) = cmpS x y := by
  obtain ⟨h1, rfl⟩ := List.getElem?_eq_some_iff.1 hx
  obtain ⟨h2, rfl⟩ := List.getElem?_eq_some_iff.1 hy
  rw [List.drop_eq_getElem_cons h1, List.drop_eq_getElem_cons h2]
  simp only [cmpL, h, if_false]
theorem fitsV_iff {xs : List Int} : fitsV xs = true ↔ i64 xs.sum := by unfold fitsV; rw [decide_eq_true_eq]
theorem sumV_of {xs : List Int} (h : i64 xs.sum) : sumV xs = xs.sum := if_pos h
attribute [irreducible] fitsV sumV
theorem cap_dec {s : ByteArray} {i : Nat} {u : UInt8} (h : s[i]? = some u) : (capB u = true ∧ Utf8.decode s i = (u.toNat, 1)) ∨ (capB u = false ∧ ¬ (65 ≤ ((Utf8.decode s i).1 : Int) ∧ ((Utf8.decode s i).1 : Int) ≤ 90)) := by
  unfold capB
  by_cases hu : u.toNat < 128
  · have hd := decode_ascii h hu
    rw [hd]
    by_cases hc : 65 ≤ (u.toNat : Int) ∧ (u.toNat : Int) ≤ 90
    · left; exact ⟨decide_eq_true hc, rfl⟩
    · right; exact ⟨decide_eq_false hc, hc⟩
  · have hd := decode_high h hu
    right; exact ⟨decide_eq_false (by omega), by omega⟩
end Go.SL

namespace Go.SL
open Go
structure Colg (κ : Type) where
  cur : κ
  b : Nat
  a1 : Option Addr
  c1 : Nat
  a2 : Option Addr
  c2 : Nat
  xs : List Int
  ys : List Int
abbrev Colm := Colg ByteArray
def ofG {κ : Type} [DecidableEq κ] (kf : Ln → κ) (c : κ) (ls : List Ln) : List Ln := ls.filter fun l => decide (kf l = c)
section
variable {κ : Type} [DecidableEq κ] {kf : Ln → κ}
structure KinvG (kf : Ln → κ) (ks : List (Colg κ)) (ls : List Ln) : Prop where
  val : ∀ x ∈ ks, x.xs = amts (ofG kf x.cur ls) ∧ x.ys = bass (ofG kf x.cur ls)
  all : ∀ l ∈ ls, ∃ x ∈ ks, x.cur = kf l
  got : ∀ x ∈ ks, ∃ l ∈ ls, kf l = x.cur
  uni : ∀ (i j : Nat) (x y : Colg κ), ks[i]? = some x → ks[j]? = some y → x.cur = y.cur → i = j
  lenk : ks.length ≤ ls.length
theorem KinvG.nil : KinvG kf [] [] := ⟨(fun _ h => by cases h), (fun _ h => by cases h), (fun _ h => by cases h), (fun i j x y h => by simp at h), Nat.le_refl _⟩
theorem ofG_app (c : κ) (a b : List Ln) : ofG kf c (a ++ b) = ofG kf c a ++ ofG kf c b := List.filter_append ..
theorem ofG_one {c : κ} {l : Ln} (h : kf l = c) : ofG kf c [l] = [l] := by unfold ofG; simp [h]
theorem ofG_not {c : κ} {l : Ln} (h : ¬ kf l = c) : ofG kf c [l] = [] := by unfold ofG; simp [h]
theorem KinvG.len {ks : List (Colg κ)} {ls : List Ln} (h : KinvG kf ks ls) {x : Colg κ} (hx : x ∈ ks) : x.xs.length ≤ ls.length ∧ x.ys.length ≤ ls.length := by
  obtain ⟨h1, h2⟩ := h.val x hx
  rw [h1, h2]
  unfold amts bass
  rw [List.length_map, List.length_map]
  have : (ofG kf x.cur ls).length ≤ ls.length := List.length_filter_le ..
  exact ⟨this, this⟩
theorem KinvG.new {ks : List (Colg κ)} {ls : List Ln} {l : Ln} (h : KinvG kf ks ls) (hn : ∀ x ∈ ks, x.cur ≠ kf l) (b : Nat) (a1 : Option Addr) (c1 : Nat) (a2 : Option Addr) (c2 : Nat) :
    KinvG kf (ks ++ [⟨kf l, b, a1, c1, a2, c2, [l.amt], [l.base]⟩]) (ls ++ [l]) := by
  refine ⟨fun x hx => ?_, fun y hy => ?_, fun x hx => ?_, fun i j x y hi hj e => ?_, by have := h.lenk; simp only [List.length_append, List.length_cons, List.length_nil]; omega⟩
  · rw [ofG_app]
    rcases List.mem_append.1 hx with hx | hx
    · rw [ofG_not (fun e => hn x hx e.symm), List.append_nil]; exact h.val x hx
    · obtain rfl := List.mem_singleton.1 hx
      have : ofG kf (kf l) ls = [] := List.filter_eq_nil_iff.2 fun y hy => by
        obtain ⟨x, hx, e⟩ := h.all y hy
        have := hn x hx
        simp only [decide_eq_true_eq]; exact fun e2 => this (by rw [e, e2])
      simp only [this, ofG_one rfl, List.nil_append, amts, bass, List.map_cons, List.map_nil, and_self]
  · rcases List.mem_append.1 hy with hy | hy
    · obtain ⟨x, hx, e⟩ := h.all y hy; exact ⟨x, List.mem_append_left _ hx, e⟩
    · obtain rfl := List.mem_singleton.1 hy; exact ⟨_, List.mem_append_right _ (List.mem_singleton.2 rfl), rfl⟩
  · rcases List.mem_append.1 hx with hx | hx
    · obtain ⟨y, hy, e⟩ := h.got x hx; exact ⟨y, List.mem_append_left _ hy, e⟩
    · obtain rfl := List.mem_singleton.1 hx; exact ⟨l, List.mem_append_right _ (List.mem_singleton.2 rfl), rfl⟩
  · have key : ∀ {i : Nat} {x : Colg κ}, (ks ++ [⟨kf l, b, a1, c1, a2, c2, [l.amt], [l.base]⟩])[i]? = some x → (ks[i]? = some x ∧ x.cur ≠ kf l) ∨ (i = ks.length ∧ x.cur = kf l) := fun {i x} hi => by
      by_cases hlt : i < ks.length
      · rw [List.getElem?_append_left hlt] at hi; exact .inl ⟨hi, hn x (List.mem_of_getElem? hi)⟩
      · rw [List.getElem?_append_right (by omega)] at hi
        have : i - ks.length = 0 := by
          have := (List.getElem?_eq_some_iff.1 hi).1
          simp at this; omega
        rw [this] at hi; simp at hi; subst hi; exact .inr ⟨by omega, rfl⟩
    rcases key hi with ⟨h1, h2⟩ | ⟨h1, h2⟩ <;> rcases key hj with ⟨h3, h4⟩ | ⟨h3, h4⟩
    · exact h.uni i j x y h1 h3 e
    · exact absurd (e.trans h4) h2
    · exact absurd (e.symm.trans h2) h4
    · omega
theorem KinvG.old {ks : List (Colg κ)} {ls : List Ln} {l : Ln} {i : Nat} {x : Colg κ} (h : KinvG kf ks ls) (hx : ks[i]? = some x) (e : x.cur = kf l) (a1 : Option Addr) (c1 : Nat) (a2 : Option Addr) (c2 : Nat) :
    KinvG kf (ks.set i ⟨x.cur, x.b, a1, c1, a2, c2, x.xs ++ [l.amt], x.ys ++ [l.base]⟩) (ls ++ [l]) := by
  have hi := (List.getElem?_eq_some_iff.1 hx).1
  have key : ∀ {j : Nat} {y : Colg κ}, (ks.set i ⟨x.cur, x.b, a1, c1, a2, c2, x.xs ++ [l.amt], x.ys ++ [l.base]⟩)[j]? = some y → (ks[j]? = some y ∧ j ≠ i) ∨ (j = i ∧ y = ⟨x.cur, x.b, a1, c1, a2, c2, x.xs ++ [l.amt], x.ys ++ [l.base]⟩) := fun {j y} hj => by
    rw [List.getElem?_set] at hj
    split at hj
    · rename_i hij
      subst hij
      simp [hi] at hj; exact .inr ⟨rfl, hj.symm⟩
    · rename_i hij; exact .inl ⟨hj, fun e => hij e.symm⟩
  have kmem : ∀ {y : Colg κ}, y ∈ ks.set i ⟨x.cur, x.b, a1, c1, a2, c2, x.xs ++ [l.amt], x.ys ++ [l.base]⟩ → (∃ j, ks[j]? = some y ∧ j ≠ i) ∨ y = ⟨x.cur, x.b, a1, c1, a2, c2, x.xs ++ [l.amt], x.ys ++ [l.base]⟩ := fun {y} hy => by
    obtain ⟨j, hj, rfl⟩ := List.getElem_of_mem hy
    rcases key (List.getElem?_eq_getElem hj) with h | h
    · exact .inl ⟨j, h⟩
    · exact .inr h.2
  have hself : (⟨x.cur, x.b, a1, c1, a2, c2, x.xs ++ [l.amt], x.ys ++ [l.base]⟩ : Colg κ) ∈ ks.set i ⟨x.cur, x.b, a1, c1, a2, c2, x.xs ++ [l.amt], x.ys ++ [l.base]⟩ := List.mem_of_getElem? (i := i) (by rw [List.getElem?_set_self hi])
  refine ⟨fun y hy => ?_, fun y hy => ?_, fun y hy => ?_, fun j k y z hj hk e2 => ?_, by have := h.lenk; simp only [List.length_append, List.length_set, List.length_cons, List.length_nil]; omega⟩
  · rw [ofG_app]
    rcases kmem hy with ⟨j, hj, hji⟩ | rfl
    · rw [ofG_not (fun e2 => hji (h.uni j i y x hj hx (by rw [e]; exact e2.symm))), List.append_nil]; exact h.val y (List.mem_of_getElem? hj)
    · have := h.val x (List.mem_of_getElem? hx)
      simp only [ofG_one e.symm, amts, bass, List.map_append, List.map_cons, List.map_nil] at this ⊢
      rw [this.1, this.2]; exact ⟨rfl, rfl⟩
  · have hlift : ∀ z ∈ ks, ∃ w ∈ ks.set i ⟨x.cur, x.b, a1, c1, a2, c2, x.xs ++ [l.amt], x.ys ++ [l.base]⟩, w.cur = z.cur := fun z hz => by
      obtain ⟨j, hj, rfl⟩ := List.getElem_of_mem hz
      by_cases hji : j = i
      · subst hji
        refine ⟨_, hself, ?_⟩
        have := (List.getElem?_eq_some_iff.1 hx).2; rw [this]
      · exact ⟨ks[j], List.mem_of_getElem? (i := j) (by rw [List.getElem?_set_ne (Ne.symm hji)]; exact List.getElem?_eq_getElem hj), rfl⟩
    rcases List.mem_append.1 hy with hy | hy
    · obtain ⟨z, hz, e2⟩ := h.all y hy
      obtain ⟨w, hw, e3⟩ := hlift z hz
      exact ⟨w, hw, e3.trans e2⟩
    · obtain rfl := List.mem_singleton.1 hy; exact ⟨_, hself, e⟩
  · rcases kmem hy with ⟨j, hj, _⟩ | rfl
    · obtain ⟨z, hz, e2⟩ := h.got y (List.mem_of_getElem? hj); exact ⟨z, List.mem_append_left _ hz, e2⟩
    · exact ⟨l, List.mem_append_right _ (List.mem_singleton.2 rfl), e.symm⟩
  · rcases key hj with ⟨h1, h2⟩ | ⟨h1, rfl⟩ <;> rcases key hk with ⟨h3, h4⟩ | ⟨h3, rfl⟩
    · exact h.uni j k y z h1 h3 e2
    · exact absurd (h.uni j i y x h1 hx e2) h2
    · exact absurd (h.uni k i z x h3 hx e2.symm) h4
    · omega
end
abbrev Kinv := KinvG Ln.cur
theorem KinvG.bal {ks : List Colm} {ls : List Ln} (h : Kinv ks ls) : balB ls = true ↔ ∀ x ∈ ks, x.xs.sum = 0 ∧ x.ys.sum = 0 := by
  unfold balB
  rw [List.all_eq_true]
  constructor
  · intro hb x hx
    obtain ⟨l, hl, e⟩ := h.got x hx
    have := hb l hl
    unfold balC at this
    simp only [Bool.and_eq_true, decide_eq_true_eq] at this
    obtain ⟨h1, h2⟩ := h.val x hx
    rw [h1, h2, ← e]; exact this
  · intro hb l hl
    obtain ⟨x, hx, e⟩ := h.all l hl
    have := hb x hx
    obtain ⟨h1, h2⟩ := h.val x hx
    unfold balC
    simp only [Bool.and_eq_true, decide_eq_true_eq]
    rw [← e]; show (amts (ofG Ln.cur x.cur ls)).sum = 0 ∧ (bass (ofG Ln.cur x.cur ls)).sum = 0; rw [← h1, ← h2]; exact this
theorem kAt_new {α κ : Type} [DecidableEq κ] {kf : α → κ} {k : κ} {y : α} : ∀ {xs : List α}, kAt kf k xs = none → kf y = k → kAt kf k (xs ++ [y]) = some (xs.length, y)
  | [], _, e => by simp [kAt, e]
  | x :: xs, h, e => by
    simp only [kAt, List.cons_append] at h ⊢
    split at h
    · cases h
    · rename_i hx
      have hn : kAt kf k xs = none := by
        cases hk : kAt kf k xs with
        | none => rfl
        | some q => rw [hk] at h; cases h
      rw [if_neg hx, kAt_new hn e]; rfl
theorem kSet_new {α κ : Type} [DecidableEq κ] {kf : α → κ} {y : α} {xs : List α} (h : kAt kf (kf y) xs = none) : kSet kf y xs = xs ++ [y] := by unfold kSet; rw [h]
theorem take_step {α : Type} {xs : List α} {i : Nat} {x : α} (h : xs[i]? = some x) : xs.take (i + 1) = xs.take i ++ [x] := by rw [List.take_add_one, h]; rfl
def Colg.cb {κ : Type} (x : Colg κ) : κ × Nat := (x.cur, x.b)
abbrev cbF (p : ByteArray × Nat) : Value := St p.1
abbrev cbG {κ : Type} (p : κ × Nat) : Value := .pointer (some ⟨p.2, 0, none⟩)
theorem col_find {κ : Type} [DecidableEq κ] {ks : List (Colg κ)} {c : κ} {q : Nat × κ × Nat} (h : kAt (Prod.fst : κ × Nat → κ) c (ks.map Colg.cb) = some q) : ∃ (i : Nat) (x : Colg κ), q = (i, x.cur, x.b) ∧ ks[i]? = some x ∧ x.cur = c := by
  obtain ⟨i, p⟩ := q
  obtain ⟨h1, h2⟩ := kAt_some h
  rw [List.getElem?_map] at h1
  cases hx : ks[i]? with
  | none => rw [hx] at h1; cases h1
  | some x =>
    rw [hx] at h1
    simp only [Option.map_some, Option.some.injEq] at h1
    subst h1
    exact ⟨i, x, rfl, hx, h2⟩
theorem KinvG.find {κ : Type} [DecidableEq κ] {kf : Ln → κ} {ks : List (Colg κ)} {ls : List Ln} (h : KinvG kf ks ls) {i : Nat} {x : Colg κ} (hx : ks[i]? = some x) : kAt (Prod.fst : κ × Nat → κ) x.cur (ks.map Colg.cb) = some (i, x.cur, x.b) := by
  have hm : x.cb ∈ ks.map Colg.cb := List.mem_map_of_mem (List.mem_of_getElem? hx)
  cases hk : kAt (Prod.fst : κ × Nat → κ) x.cur (ks.map Colg.cb) with
  | none => exact absurd rfl (kAt_none hk _ hm)
  | some q =>
    obtain ⟨j, y, rfl, hy, e⟩ := col_find hk
    obtain rfl := h.uni j i y x hy hx e
    rw [hx] at hy; cases hy; rfl
theorem setId {α : Type} {xs : List α} {i : Nat} {x : α} (h : xs[i]? = some x) : xs.set i x = xs := by
  obtain ⟨hi, rfl⟩ := List.getElem?_eq_some_iff.1 h
  exact List.set_getElem_self hi
theorem wi_zero {n : Int} : wiB n 0 = true ↔ n = 0 := by unfold wiB; rw [decide_eq_true_eq]; omega
theorem both_zero {x : Colm} (h : wiB x.xs.sum 0 = true ∧ wiB x.ys.sum 0 = true) : x.xs.sum = 0 ∧ x.ys.sum = 0 := ⟨wi_zero.1 h.1, wi_zero.1 h.2⟩
theorem both_nz {x : Colm} (h : wiB x.xs.sum 0 = true → wiB x.ys.sum 0 = false) (h2 : x.xs.sum = 0 ∧ x.ys.sum = 0) : False := by
  have := h (wi_zero.2 h2.1); rw [wi_zero.2 h2.2] at this; cases this
theorem col_set {κ : Type} {ks : List (Colg κ)} {i : Nat} {x y : Colg κ} (hx : ks[i]? = some x) (h1 : y.cur = x.cur) (h2 : y.b = x.b) : (ks.set i y).map Colg.cb = ks.map Colg.cb ∧ (ks.set i y).map Colg.cur = ks.map Colg.cur := by
  have hi := (List.getElem?_eq_some_iff.1 hx)
  obtain ⟨hi, rfl⟩ := hi
  constructor
  · rw [List.map_set]; apply List.ext_getElem?; intro j
    rw [List.getElem?_set]
    split
    · rename_i e; subst e; simp [hi, Colg.cb, h1, h2]
    · rfl
  · rw [List.map_set]; apply List.ext_getElem?; intro j
    rw [List.getElem?_set]
    split
    · rename_i e; subst e; simp [hi, h1]
    · rfl
end Go.SL

namespace Go.SL
open Go
section
variable {P : Program} {β : Base} {E : Env} {L L' M M' : List HP} {K : Value → List HP → Prop} {d : Option Tmp} {ty : TypeId} {pos : String} {af : Array Edge} {g : Option (Nat × Bool)} {x y : Operand} {t t' : TypeId} {e : TypeId} {k : Nat}
end
theorem Rd.pre {R : HP} {a : Addr} {us vs : List Value} (h : Rd R a (us ++ vs)) : Rd R a us := fun hp hr => by
  obtain ⟨cs, t, fr, h1, h2, h3⟩ := h hp hr
  exact ⟨cs, t, fr, h1, h2, fun j v hj => h3 j v (by rw [List.getElem?_append_left (List.getElem?_eq_some_iff.1 hj).1]; exact hj)⟩
theorem Rd.drop {α : Type} {enc : α → List Value} {k : Nat} {R : HP} {b o : Nat} {p r : List α} (hk : ∀ x, (enc x).length = k) (h : Rd R ⟨b, o, none⟩ ((p ++ r).flatMap enc)) : Rd R ⟨b, o + p.length * k, none⟩ (r.flatMap enc) := fun hp hr => by
  obtain ⟨cs, t, fr, h1, h2, h3⟩ := h hp hr
  refine ⟨cs, t, fr, h1, h2, fun j v hj => ?_⟩
  have := h3 (p.length * k + j) v (by
    rw [List.flatMap_append, List.getElem?_append_right (by rw [flat_len hk]; omega), flat_len hk]
    rw [show p.length * k + j - p.length * k = j by omega]; exact hj)
  rw [← Nat.add_assoc] at this; exact this
theorem own.rd {T : TypeId} {k : Nat} {b n cap : Nat} {cs : List Value} (hne : cs ≠ []) : Rd (own T k (some ⟨b, 0, none⟩) n cap cs) ⟨b, 0, none⟩ cs := fun h hh => by
  rcases own.rds h hh with h1 | ⟨b', o', h1, h2⟩
  · exact absurd h1 hne
  · simp only [Option.some.injEq, Addr.mk.injEq] at h1
    obtain ⟨rfl, rfl, _⟩ := h1
    obtain ⟨cs', t, fr, h3, h4⟩ := h2
    exact ⟨cs', t, fr, h3, rfl, h4⟩
def ofL (xs : List Cl) : List Cl × Int := match sheetL xs with | some s => (s, 0) | none => ([], 4)
end Go.SL

namespace Go.SL
open Go
theorem code_size {s : ByteArray} (h : codeB s = true) : (s.size : Int) ≤ 12 := by
  with_unfolding_all
    unfold codeB at h
    simp only [Bool.and_eq_true, decide_eq_true_eq] at h
    exact h.1.2
theorem tg_size {t : Tg} (h : tgOk t = true) : (t.name.size : Int) ≤ 12 ∧ (t.value.size : Int) ≤ 12 := by
  unfold tgOk at h; rw [Bool.and_eq_true] at h; exact ⟨code_size h.1, code_size h.2⟩
theorem right_at {ts : List Tg} {i : Nat} {t : Tg} (h : rightB ts = true) (ht : ts[i]? = some t) : tgOk t = true := by
  unfold rightB at h; rw [Bool.and_eq_true] at h
  exact (okT_at.1 h.2 i t ht).1
theorem right_len {ts : List Tg} (h : rightB ts = true) : ts.length ≤ 6 := by
  unfold rightB at h; rw [Bool.and_eq_true, decide_eq_true_eq] at h; exact h.1
end Go.SL

namespace Go.SL
open Go
structure Rl where
  bad : Bool
  e : Int
def Rl.c (r : Rl) : List Value := [Bo r.bad, I r.e]
def firstE : List Rl → Int
  | [] => 0
  | r :: rs => if r.bad = true then r.e else firstE rs
def okR (rs : List Rl) (i : Nat) : Prop := ∀ (j : Nat) (r : Rl), j < i → rs[j]? = some r → r.bad = false
theorem first_all : ∀ {rs : List Rl}, (∀ r ∈ rs, r.bad = false) → firstE rs = 0
  | [], _ => rfl
  | r :: rs, h => by rw [firstE, if_neg (by rw [h r (by simp)]; decide)]; exact first_all fun x hx => h x (by simp [hx])
theorem first_at : ∀ {rs : List Rl} {i : Nat} {r : Rl}, okR rs i → rs[i]? = some r → r.bad = true → firstE rs = r.e
  | [], _, _, _, hr, _ => by simp at hr
  | x :: rs, 0, r, _, hr, hb => by simp at hr; subst hr; rw [firstE, if_pos hb]
  | x :: rs, i + 1, r, ho, hr, hb => by
    rw [firstE, if_neg (by rw [ho 0 x (by omega) rfl]; decide)]
    exact first_at (i := i) (fun j y hj hy => ho (j + 1) y (by omega) (by simpa using hy)) (by simpa using hr) hb
theorem okR.all {rs : List Rl} {i : Nat} (h : okR rs i) (hi : rs.length ≤ i) : firstE rs = 0 := first_all fun r hr => by
  obtain ⟨j, hj, rfl⟩ := List.getElem_of_mem hr
  exact h j _ (by omega) (List.getElem?_eq_getElem hj)
theorem first_pos : ∀ {rs : List Rl}, (∀ r ∈ rs, r.e ≠ 0) → (firstE rs = 0 ↔ ∀ r ∈ rs, r.bad = false)
  | [], _ => by simp [firstE]
  | r :: rs, h => by
    have ih := first_pos (rs := rs) fun x hx => h x (by simp [hx])
    rw [firstE]
    split
    · rename_i hb
      exact ⟨fun e => absurd e (h r (by simp)), fun e => by have := e r (by simp); rw [hb] at this; cases this⟩
    · rename_i hb
      rw [ih]
      exact ⟨fun e x hx => by { rcases List.mem_cons.1 hx with rfl | hx; exact Bool.eq_false_iff.2 hb; exact e x hx }, fun e x hx => e x (by simp [hx])⟩
theorem ris_iff : ∀ {ns : List ByteArray}, risB ns = true ↔ ∀ (j : Nat) (x y : ByteArray), ns[j]? = some x → ns[j + 1]? = some y → blt x y = true
  | [] => by simp [risB]
  | [s] => by simp [risB]
  | s :: t :: r => by
    have ih := ris_iff (ns := t :: r)
    rw [risB, Bool.and_eq_true, ih]
    constructor
    · intro h j x y hx hy
      cases j with
      | zero => simp at hx hy; subst hx; subst hy; exact h.1
      | succ j => exact h.2 j x y (by simpa using hx) (by simpa using hy)
    · intro h
      exact ⟨h 0 s t rfl rfl, fun j x y hx hy => h (j + 1) x y (by simpa using hx) (by simpa using hy)⟩
def risTo (ns : List ByteArray) (i : Nat) : Prop := ∀ (j : Nat) (x y : ByteArray), j + 1 < i → ns[j]? = some x → ns[j + 1]? = some y → blt x y = true
theorem risTo.one {ns : List ByteArray} : risTo ns 1 := fun j x y h => by omega
theorem risTo.step {ns : List ByteArray} {i : Nat} {x y : ByteArray} (h : risTo ns (i + 1)) (hx : ns[i]? = some x) (hy : ns[i + 1]? = some y) (hb : blt x y = true) : risTo ns (i + 2) := fun j u v hj hu hv => by
  by_cases e : j = i
  · subst e; rw [hx] at hu; rw [hy] at hv; cases hu; cases hv; exact hb
  · exact h j u v (by omega) hu hv
theorem risTo.all {ns : List ByteArray} {i : Nat} (h : risTo ns i) (hi : ns.length ≤ i) : risB ns = true := ris_iff.2 fun j x y hx hy => h j x y (by have := (List.getElem?_eq_some_iff.1 hy).1; omega) hx hy
theorem ris_not {ns : List ByteArray} {i : Nat} {x y : ByteArray} (hx : ns[i]? = some x) (hy : ns[i + 1]? = some y) (hb : blt x y = false) : risB ns = false := by
  rw [Bool.eq_false_iff]; intro h; rw [ris_iff.1 h i x y hx hy] at hb; cases hb
def codeTo (ns : List ByteArray) (i : Nat) : Prop := ∀ (j : Nat) (x : ByteArray), j < i → ns[j]? = some x → codeB x = true
theorem codeTo.all {ns : List ByteArray} {i : Nat} (h : codeTo ns i) (hi : ns.length ≤ i) : ns.all codeB = true := List.all_eq_true.2 fun x hx => by
  obtain ⟨j, hj, rfl⟩ := List.getElem_of_mem hx
  exact h j _ (by omega) (List.getElem?_eq_getElem hj)
theorem code_not {ns : List ByteArray} {i : Nat} {x : ByteArray} (hx : ns[i]? = some x) (hb : codeB x = false) : ns.all codeB = false := by
  rw [Bool.eq_false_iff]; intro h; rw [List.all_eq_true.1 h x (List.mem_of_getElem? hx)] at hb; cases hb
def Ac.st (a : Ac) : Ac := ⟨a.code, a.parent, a.kind, a.post, a.cur, a.mon, a.inter, none, 0, a.need⟩
abbrev Ac0 : Ac := ⟨bs0, bs0, 0, false, bs0, false, false, none, 0, []⟩
abbrev acF (a : Ac) : Value := St a.code
abbrev acG (a : Ac) : Value := .agg ⟨a.c⟩
theorem kAt_getL {code : ByteArray} : ∀ {m : List Ac}, getL m code = (kAt Ac.code code m).map Prod.snd
  | [] => rfl
  | a :: m => by
    have ih := kAt_getL (code := code) (m := m)
    unfold getL at ih ⊢
    rw [List.find?_cons, kAt]
    by_cases h : a.code = code
    · simp [h]
    · simp only [h, decide_false, Bool.false_eq_true, if_false, ih]
      cases kAt Ac.code code m <;> rfl
theorem gotL_none {code : ByteArray} {m : List Ac} (h : kAt Ac.code code m = none) : getL m code = none := by rw [kAt_getL, h]; rfl
theorem gotL_some {code : ByteArray} {m : List Ac} {q : Nat × Ac} (h : kAt Ac.code code m = some q) : getL m code = some q.2 := by rw [kAt_getL, h]; rfl
theorem get_st {code : ByteArray} : ∀ {m p : List Ac}, m.map Ac.st = p.map Ac.st → (getL m code).map Ac.st = (getL p code).map Ac.st
  | [], [], _ => rfl
  | [], _ :: _, h => by cases h
  | _ :: _, [], h => by cases h
  | a :: m, b :: p, h => by
    simp only [List.map_cons, List.cons.injEq] at h
    have ih := get_st (code := code) h.2
    have hc : a.code = b.code := by have := congrArg Ac.code h.1; exact this
    unfold getL at ih ⊢
    rw [List.find?_cons, List.find?_cons, hc]
    by_cases e : b.code = code
    · simp [e, h.1]
    · simpa [e] using ih
theorem par_st {code : ByteArray} {m p : List Ac} (h : m.map Ac.st = p.map Ac.st) : parOf m code = parOf p code := by
  have := get_st (code := code) h
  unfold parOf
  cases h1 : getL m code <;> cases h2 : getL p code <;> rw [h1, h2] at this <;> simp at this ⊢
  have e1 := congrArg Ac.parent this
  exact e1
theorem circN_st {code : ByteArray} {m p : List Ac} (h : m.map Ac.st = p.map Ac.st) : ∀ (n : Nat) (at_ : ByteArray), circN m code n at_ = circN p code n at_
  | 0, _ => rfl
  | n + 1, at_ => by rw [circN, circN, par_st h, circN_st h n]
theorem below_st {a : Ac} {m p : List Ac} (h : m.map Ac.st = p.map Ac.st) : belowB m a = belowB p a := by
  have := get_st (code := a.parent) h
  have hl : m.length = p.length := by have := congrArg List.length h; simpa using this
  unfold belowB circB
  rw [par_st h, hl, circN_st h]
  cases h1 : getL m a.parent <;> cases h2 : getL p a.parent <;> rw [h1, h2] at this <;> simp at this ⊢
  have e1 := congrArg Ac.kind this
  have e2 := congrArg Ac.post this
  simp only [Ac.st] at e1 e2
  rw [e1, e2]
theorem alone_st {a : Ac} {m p : List Ac} (h : m.map Ac.st = p.map Ac.st) : aloneB m a = aloneB p a := by
  have := get_st (code := a.code) h
  unfold aloneB
  cases h1 : getL m a.code <;> cases h2 : getL p a.code <;> rw [h1, h2] at this <;> simp at this ⊢
def aloneR (m : List Ac) (a : Ac) : List Rl := [⟨!namesB a, 7⟩, ⟨decide (a.kind < 1 ∨ 5 < a.kind), 10⟩, ⟨decide (a.cur ≠ bs0) && !curB a.cur, 13⟩, ⟨(getL m a.code).isSome, 8⟩, ⟨decide (6 < a.need.length) || !risB a.need, 14⟩]
def aloneE (m : List Ac) (a : Ac) : Int := firstE (aloneR m a)
theorem alone_zero {m : List Ac} {a : Ac} : aloneE m a = 0 ↔ aloneB m a = true := by
  unfold aloneE
  rw [first_pos (by simp [aloneR])]
  unfold aloneB aloneR
  cases namesB a <;> cases curB a.cur <;> cases hg : getL m a.code <;> cases risB a.need <;> simp [inB] <;> grind
def upOf (m : List Ac) (a : Ac) : Ac := (getL m a.parent).getD Ac0
def belowR (m : List Ac) (a : Ac) : List Rl := [⟨!(getL m a.parent).isSome, 28⟩, ⟨decide ((upOf m a).kind ≠ a.kind), 10⟩, ⟨(upOf m a).post, 12⟩, ⟨circB m a.code, 24⟩]
def belowE (m : List Ac) (a : Ac) : Int := if a.parent = bs0 then 0 else firstE (belowR m a)
theorem below_zero {m : List Ac} {a : Ac} : belowE m a = 0 ↔ belowB m a = true := by
  unfold belowE belowB
  by_cases h : a.parent = bs0
  · simp [h]
  · rw [if_neg h, first_pos (by simp [belowR])]
    unfold belowR upOf
    cases hg : getL m a.parent <;> simp [h]
    rename_i up
    cases up.post <;> cases circB m a.code <;> simp
theorem alone_new {m : List Ac} {a : Ac} (h : aloneE m a = 0) : kAt Ac.code a.code m = none := by
  have := alone_zero.1 h
  unfold aloneB at this
  simp only [Bool.and_eq_true] at this
  have h2 := this.1.2
  rw [kAt_getL] at h2
  cases hk : kAt Ac.code a.code m with
  | none => rfl
  | some q => rw [hk] at h2; cases h2
def aloneTo (xs : List Ac) (i : Nat) : Prop := ∀ (j : Nat) (a : Ac), j < i → xs[j]? = some a → aloneB (xs.take j) a = true
theorem alones_iff : ∀ {r p : List Ac}, alonesB p r = true ↔ ∀ (j : Nat) (a : Ac), r[j]? = some a → aloneB (p ++ r.take j) a = true
  | [], p => by simp [alonesB]
  | a :: r, p => by
    rw [alonesB, Bool.and_eq_true, alones_iff (r := r)]
    constructor
    · intro h j x hx
      cases j with
      | zero => simp at hx; subst hx; simpa using h.1
      | succ j => have := h.2 j x (by simpa using hx); rw [List.append_assoc] at this; exact this
    · intro h
      exact ⟨by simpa using h 0 a rfl, fun j x hx => by have := h (j + 1) x (by simpa using hx); rw [List.append_assoc]; exact this⟩
theorem chart_iff {xs : List Ac} : chartB xs = true ↔ xs.length ≤ 400 ∧ (∀ (j : Nat) (a : Ac), xs[j]? = some a → aloneB (xs.take j) a = true) ∧ ∀ (j : Nat) (a : Ac), xs[j]? = some a → belowB xs a = true := by
  unfold chartB
  rw [Bool.and_eq_true, Bool.and_eq_true, decide_eq_true_eq, alones_iff, List.all_eq_true]
  simp only [List.nil_append]
  constructor
  · intro h; exact ⟨h.1.1, h.1.2, fun j a ha => h.2 a (List.mem_of_getElem? ha)⟩
  · intro h; exact ⟨⟨h.1, h.2.1⟩, fun a ha => by obtain ⟨j, hj, rfl⟩ := List.getElem_of_mem ha; exact h.2.2 j _ (List.getElem?_eq_getElem hj)⟩
def Ac.put (a : Ac) (y : Option Addr × Nat) : Ac := ⟨a.code, a.parent, a.kind, a.post, a.cur, a.mon, a.inter, y.1, y.2, a.need⟩
theorem take_st {m xs : List Ac} {i : Nat} {a b : Ac} (h : m.map Ac.st = (xs.take i).map Ac.st) (ha : xs[i]? = some a) (hb : b.st = a.st) : (m ++ [b]).map Ac.st = (xs.take (i + 1)).map Ac.st := by
  rw [take_step ha, List.map_append, List.map_append, h, List.map_cons, List.map_cons, hb, List.map_nil]
def Ac.rd (R : HP) (a : Ac) : Prop := RdS R a.na (a.need.flatMap Sb) ∧ a.need.length ≤ 140737488355328 ∧ (a.cur.size : Int) ≤ 9223372036854775807
def lkA (m : List Ac) (c : ByteArray) : Ac := (getL m c).getD Ac0
theorem lk_kAt {m : List Ac} {c : ByteArray} : (match kAt Ac.code c m with | some q => acG q.2 | none => acG Ac0) = acG (lkA m c) := by
  unfold lkA; rw [kAt_getL]; cases kAt Ac.code c m <;> rfl
theorem par_lk {m : List Ac} {c : ByteArray} : (lkA m c).parent = parOf m c := by
  unfold lkA parOf; cases getL m c <;> rfl
section
variable {P : Program} {β : Base} {E : Env} {L M : List HP} {K : Value → List HP → Prop} {d : Option Tmp} {ty : TypeId} {pos : String} {af : Array Edge} {gd : Option (Nat × Bool)} {x y : Operand} {t kt et : TypeId} {b : Nat}
theorem OpJ.lookupA1 {m : List Ac} {c : ByteArray} (Mp : MPI P t kt et) (U : UI P kt .string) (Z : ZVI P et (acG Ac0)) (hx : E.ev x = some (.map (some b))) (hy : E.ev y = some (St c)) (p : Pick L (amap b acF acG m) M)
    (h : K (acG (lkA m c)) L) : OpJ P β E L ⟨d, .lookup t x y false, ty, pos, af, gd⟩ K :=
  OpJ.lookup1 keyStr Mp U Z hx hy p (by rw [← lk_kAt] at h; revert h; cases kAt Ac.code c m <;> exact fun h => h)
theorem OpJ.lookupA2 {m : List Ac} {c : ByteArray} (Mp : MPI P t kt et) (U : UI P kt .string) (Z : ZVI P et (acG Ac0)) (hx : E.ev x = some (.map (some b))) (hy : E.ev y = some (St c)) (p : Pick L (amap b acF acG m) M)
    (h : K (.tuple ⟨[acG (lkA m c), .bool (getL m c).isSome]⟩) L) : OpJ P β E L ⟨d, .lookup t x y true, ty, pos, af, gd⟩ K :=
  OpJ.lookup2 keyStr Mp U Z hx hy p (by rw [← lk_kAt, kAt_getL] at h; revert h; cases kAt Ac.code c m <;> exact fun h => h)
end
theorem circ_true {m : List Ac} {code at_ : ByteArray} {n : Nat} (h : at_ = code) : circN m code (n + 1) at_ = true := by rw [circN, if_pos h]
theorem circ_step {m : List Ac} {code at_ : ByteArray} {n : Nat} (h : ¬ at_ = code) : circN m code (n + 1) at_ = circN m code n (parOf m at_) := by rw [circN, if_neg h]
attribute [irreducible] firstE
end Go.SL

namespace Go.SL
open Go Go.Shelf
section
variable {P : Program} {β : Base} {E : Env} {L L' M M' : List HP} {K : Value → List HP → Prop} {d : Option Tmp} {ty : TypeId} {pos : String} {af : Array Edge} {gd : Option (Nat × Bool)} {x y : Operand} {t kt et : TypeId}
theorem OpJ.lenM {α : Type} {f g : α → Value} {xs : List α} {b : Nat} (Mp : MPI P t kt et) (hx : E.ev x = some (.map (some b))) (p : Pick L (amap b f g xs) M) (h : K (.int .i64 (xs.length : Int)) L) : OpJ P β E L ⟨d, .call ⟨.builtin .len, #[x], #[t]⟩, ty, pos, af, gd⟩ K :=
  OpJ.same (fun a w ha hs => by
    have hb := hs.heap p
    simp [execOp, resolve, invoke, builtin, Builtin.len_, ha.ev hx, run_underlying Mp.eq, MapKept.run_getObj_map hb, goInt, ents, entsF_len, Result.andThen]) h
end
theorem RunD.takeGR {P : Program} {β : Base} {nn : Nat} {ops : Array Oper} {fuel : Nat} {listed : Array Bool} {pend : Pend} {E : Env} {L M : List HP} {K : Env → List HP → Prop} (i : Nat) {m jg : Nat} {gb : Bool} {gd : Tmp} {ad : Addr} {R : HP} {vs : List Value} {x : Operand} {t : TypeId} {d : Option Tmp} {ty : TypeId} {pos : String} {af : Array Edge} (hi : ops[i]? = some ⟨d, .load t x, ty, pos, af, some (jg, gb)⟩) (hj : (ops[jg]?).bind (·.dst) = some gd) (hgb : E.get gd = some (.bool gb)) (hd : dstOk nn d = true)
    (hchk : (Region.noSelect ops && Region.free .any ops listed i && (Region.ready .any ops listed).contains i) = true) (T : TI P t true m) (hx : E.ev x = some (.pointer (some ad))) (p : Pick L R M) (hr : Rd R ad vs) (hn : vs.length = m)
    (h : RunD P β nn ops fuel (listed.setIfInBounds i true) ((i, [R]) :: pend) (E.put d (.agg ⟨vs⟩)) L K) : RunD P β nn ops (fuel + 1) listed pend E L K :=
  RunD.takeG (Ls := [R]) i hi rfl hj hgb hd hchk (DetJ.loadA T hx .here hr hn) (.cons p .nil) h
end Go.SL

namespace Go.SL
open Go
def SortV (o : List Mv) : Prop := ∀ (i j : Nat) (x y : Mv), i ≤ j → o[i]? = some x → o[j]? = some y → x.value ≤ y.value
theorem SortV.mono {o : List Mv} (h : SortV o) (v : Int) : Mono (laterB v) o := fun i j x y hij hx hy hp => by
  have := h i j x y hij hx hy
  simp only [laterB, decide_eq_true_eq] at hp ⊢; omega
theorem ins_get {α : Type} {o : List α} {n : Nat} {x : α} (hn : n ≤ o.length) (i : Nat) : (o.take n ++ x :: o.drop n)[i]? = if i < n then o[i]? else if i = n then some x else o[i - 1]? := by
  have hl : (o.take n).length = n := by rw [List.length_take]; omega
  by_cases h : i < n
  · rw [if_pos h, List.getElem?_append_left (by omega), List.getElem?_take_of_lt h]
  · rw [if_neg h, List.getElem?_append_right (by omega), hl]
    by_cases h2 : i = n
    · subst h2; simp
    · rw [if_neg h2, show i - n = (i - n - 1) + 1 by omega, List.getElem?_cons_succ, List.getElem?_drop]
      congr 1; omega
theorem SortV.ins {o : List Mv} (h : SortV o) (m : Mv) : SortV (insB (laterB m.value) m o) := by
  have hc := cutN_le (p := laterB m.value) (o := o)
  rw [insB_eq]
  intro i j x y hij hx hy
  rw [ins_get hc] at hx hy
  have lo : ∀ a z, a < cutN (laterB m.value) o → o[a]? = some z → z.value ≤ m.value := fun a z ha hz => by
    have := cutN_lt ha hz
    simp only [laterB, decide_eq_false_iff_not] at this; omega
  have hi : ∀ a z, cutN (laterB m.value) o ≤ a → o[a]? = some z → m.value ≤ z.value := fun a z ha hz => by
    have := (cutN_iff (h.mono m.value) hz).2 ha
    simp only [laterB, decide_eq_true_eq] at this; omega
  split at hx
  · split at hy
    · exact h _ _ _ _ hij hx hy
    · split at hy
      · cases hy; exact lo _ _ (by assumption) hx
      · exact h _ _ _ _ (by omega) hx hy
  · split at hx
    · cases hx
      split at hy
      · omega
      · split at hy
        · cases hy; exact Int.le_refl _
        · exact hi _ _ (by omega) hy
    · split at hy
      · omega
      · split at hy
        · omega
        · exact h _ _ _ _ (by omega) hx hy
theorem ordM_sort (ms : List Mv) : SortV (ordM ms) := by
  suffices H : ∀ (ms o : List Mv), SortV o → SortV (ms.foldl (fun o m => insB (laterB m.value) m o) o) from H ms [] (fun i j x y _ hx => by simp at hx)
  intro ms
  induction ms with
  | nil => intro o h; exact h
  | cons m ms ih => intro o h; exact ih _ (h.ins m)
theorem ordM_len (ms : List Mv) : (ordM ms).length = ms.length := (ordM_perm ms).length_eq
structure IdxI (ms : List Mv) (ord : List Int) : Prop where
  len : ord.length = ms.length
  idx : ∀ (i : Nat) (y : Int), ord[i]? = some y → ∃ (q : Nat) (m : Mv), y = (q : Int) ∧ ms[q]? = some m ∧ (ordM ms)[i]? = some m
  dis : ord.Nodup
theorem IdxI.nil : IdxI [] [] := ⟨rfl, fun i y h => by simp at h, List.nodup_nil⟩
theorem IdxI.mono {ms : List Mv} {ord : List Int} (h : IdxI ms ord) (v : Int) : Mono (dnB ms v) ord := fun i j x y hij hx hy hp => by
  obtain ⟨q, m, rfl, hq, hs⟩ := h.idx i x hx
  obtain ⟨r, n, rfl, hr, ht⟩ := h.idx j y hy
  have := ordM_sort ms i j m n hij hs ht
  unfold dnB at hp ⊢
  rw [show ((q : Int)).toNat = q from rfl, hq] at hp
  rw [show ((r : Int)).toNat = r from rfl, hr]
  simp only [Option.map_some, Option.getD_some, decide_eq_true_eq] at hp ⊢; omega
theorem IdxI.cut {ms : List Mv} {ord : List Int} (h : IdxI ms ord) (v : Int) : cutN (dnB ms v) ord = cutN (laterB v) (ordM ms) := by
  refine cutN_mid (by rw [h.len, ← ordM_len]; exact cutN_le) (fun i y hi hy => ?_) (fun y hy => ?_)
  · obtain ⟨q, m, rfl, hq, hs⟩ := h.idx i y hy
    have := cutN_lt hi hs
    unfold dnB
    rw [show ((q : Int)).toNat = q from rfl, hq]
    exact this
  · obtain ⟨q, m, rfl, hq, hs⟩ := h.idx _ y hy
    have := cutN_at hs
    unfold dnB
    rw [show ((q : Int)).toNat = q from rfl, hq]
    exact this
theorem IdxI.ins {ms : List Mv} {ord : List Int} (h : IdxI ms ord) (m : Mv) : IdxI (ms ++ [m]) (insN ord (cutN (dnB ms m.value) ord) (ms.length : Int)) := by
  have hc := cutN_le (p := laterB m.value) (o := ordM ms)
  have hc2 := cutN_le (p := dnB ms m.value) (o := ord)
  have up : ∀ (i : Nat) (y : Int), ord[i]? = some y → ∃ (q : Nat) (x : Mv), y = (q : Int) ∧ (ms ++ [m])[q]? = some x ∧ (ordM ms)[i]? = some x := fun i y hy => by
    obtain ⟨q, x, e, hq, hs⟩ := h.idx i y hy
    exact ⟨q, x, e, by rw [List.getElem?_append_left (List.getElem?_eq_some_iff.1 hq).1]; exact hq, hs⟩
  refine ⟨by rw [insN_len hc2, h.len]; simp, fun i y hy => ?_, ?_⟩
  · unfold insN at hy
    rw [ins_get hc2] at hy
    rw [h.cut] at hy
    rw [ordM_app, insB_eq, ins_get hc]
    by_cases h1 : i < cutN (laterB m.value) (ordM ms)
    · rw [if_pos h1] at hy ⊢; exact up i y hy
    · rw [if_neg h1] at hy ⊢
      by_cases h2 : i = cutN (laterB m.value) (ordM ms)
      · rw [if_pos h2] at hy ⊢
        cases hy
        exact ⟨ms.length, m, rfl, by simp, rfl⟩
      · rw [if_neg h2] at hy ⊢; exact up _ y hy
  · unfold insN
    have hp : (ord.take (cutN (dnB ms m.value) ord) ++ (ms.length : Int) :: ord.drop (cutN (dnB ms m.value) ord)).Perm ((ms.length : Int) :: ord) := by
      refine List.perm_middle.trans ?_
      rw [List.take_append_drop]
    refine hp.nodup_iff.2 (List.nodup_cons.2 ⟨fun hm => ?_, h.dis⟩)
    obtain ⟨i, hi⟩ := List.getElem?_of_mem hm
    obtain ⟨q, x, e, hq, _⟩ := h.idx i _ hi
    have := (List.getElem?_eq_some_iff.1 hq).1
    omega
theorem chkL_ne : ∀ {ms done : List Mv} {p : Nat × Int}, chkL done ms = some p → p.2 ≠ 0
  | [], done, p, h => by cases h
  | x :: ms, done, p, h => by
    simp only [chkL] at h
    split at h
    · cases h; show (17 : Int) ≠ 0; decide
    split at h
    · cases h; assumption
    split at h
    · rename_i h3; cases h; exact h3.2
    · exact chkL_ne h
theorem chkE_none {ms : List Mv} : chkE ms = 0 ↔ chkM ms = none := by
  unfold chkE
  cases h : chkM ms with
  | none => simp
  | some p =>
    have : p.2 ≠ 0 := by
      unfold chkM at h
      split at h
      · cases h; decide
      · exact chkL_ne h
    simp [this]
structure EngI (g : Eg) (p : Int) (KL KP : HP) : Prop where
  len : g.ms.length ≤ 2000
  fine : Fine g.ms
  ix : IdxI g.ms g.ord
  kl : g.kp.length = g.ms.length / 16 + 1
  kp : ∀ (j : Nat) (x : Ks), g.kp[j]? = some x → Before g.k (start0 g.k p) (ordM g.ms) (16 * j) x.s ∧ KsR KL KP x
  cr : KsR KL KP g.last
  st : startE g.k p = 0
  cl : g.cs.length = g.ms.length
  run : ∃ cs0, runL (stepM g.k) (start0 g.k p) (ordM g.ms) = .ok (g.last.s, cs0) ∧ ∀ (i q : Nat), g.ord[i]? = some (q : Int) → g.cs[q]? = cs0[i]?
theorem ordM_pre {ms : List Mv} {m : Mv} {n : Nat} (h : n ≤ cutN (laterB m.value) (ordM ms)) : (ordM (ms ++ [m])).take n = (ordM ms).take n := by
  have hc := cutN_le (p := laterB m.value) (o := ordM ms)
  rw [ordM_app, insB_eq, List.take_append_of_le_length (by rw [List.length_take]; omega), List.take_take, Nat.min_eq_left h]
abbrev addAt (g : Eg) (m : Mv) : Nat := cutN (dnB g.ms m.value) g.ord
abbrev addOrd (g : Eg) (m : Mv) : List Int := insN g.ord (addAt g m) (g.ms.length : Int)
def addRun (g : Eg) (p : Int) (m : Mv) : Except (Nat × Int) (Sk × List Co) := runL (stepM g.k) (start0 g.k p) (ordM (g.ms ++ [m]))
def Co0 : Co := ⟨0, 0, 0, 0⟩
def newCs (kv : List KV) (cs : List Co) (cs1 : List Co) : Prop := cs1.length = cs.length ∧ ∀ q, q < cs.length → cs1[q]? = match kAt (Prod.fst : KV → Int) (q : Int) kv with | some x => some x.2.2 | none => cs[q]?
structure AddO where
  g : Eg
  mo : Option Addr
  mc : Nat
  co : Option Addr
  cc : Nat
  oo : Option Addr
  oc : Nat
  ko : Option Addr
  kc : Nat
  ja : Option Addr
  jc : Nat
  KL : HP
  KP : HP
theorem EngI.grow {g : Eg} {p : Int} {KL KP KL' KP' : HP} (h : EngI g p KL KP) (h1 : Grow KL KL') (h2 : Grow KP KP') : EngI g p KL' KP' := ⟨h.len, h.fine, h.ix, h.kl, fun j x hx => ⟨(h.kp j x hx).1, (h.kp j x hx).2.grow h1 h2⟩, h.cr.grow h1 h2, h.st, h.cl, h.run⟩
def leftC (n : Nat) (seen : Array Nat) : Nat := ((List.range n).filter fun j => !seen.contains j).length
theorem leftC_push {n i : Nat} {seen : Array Nat} (hi : i < n) (h : i ∉ seen) : leftC n (seen.push i) < leftC n seen :=
  filter_lt (fun j => !seen.contains j) (fun j => !(seen.push i).contains j) (fun x hx => by
    rw [contains_push] at hx
    cases hc : seen.contains x with
    | false => rfl
    | true => rw [hc, Bool.true_or] at hx; exact absurd hx (by decide)) i (by simpa using h) (by rw [contains_push, beq_self_eq_true, Bool.or_true]; rfl) (List.range n) (List.mem_range.2 hi)
theorem kAt_at {α κ : Type} [DecidableEq κ] {kf : α → κ} : ∀ {xs : List α} {i : Nat} {y : α}, (xs.map kf).Nodup → xs[i]? = some y → kAt kf (kf y) xs = some (i, y)
  | [], i, y, _, h => by simp at h
  | x :: xs, 0, y, _, h => by simp only [List.getElem?_cons_zero, Option.some.injEq] at h; subst h; simp [kAt]
  | x :: xs, i + 1, y, hn, h => by
    simp only [List.getElem?_cons_succ] at h
    simp only [List.map_cons, List.nodup_cons] at hn
    have hne : ¬ kf x = kf y := fun e => hn.1 (e ▸ List.mem_map_of_mem (List.mem_of_getElem? h))
    simp only [kAt, if_neg hne, kAt_at hn.2 h]
    rfl
structure PartC (kv : List KV) (seen : Array Nat) (cs cs1 : List Co) : Prop where
  len : cs1.length = cs.length
  at_ : ∀ q, q < cs.length → cs1[q]? = match kAt (Prod.fst : KV → Int) (q : Int) kv with | some x => if x.1 ∈ seen then some x.2.2 else cs[q]? | none => cs[q]?
theorem PartC.start {kv : List KV} {cs : List Co} : PartC kv #[] cs cs := ⟨rfl, fun q hq => by split <;> simp⟩
theorem PartC.next {kv : List KV} {seen : Array Nat} {cs cs1 : List Co} {i q : Nat} {c : Co} (h : PartC kv seen cs cs1) (hn : (kv.map Prod.fst).Nodup) (hi : kv[i]? = some ((q : Int), c)) (hq : q < cs.length) : PartC kv (seen.push i) cs (cs1.set q c) := by
  have hk := kAt_at (kf := (Prod.fst : KV → Int)) hn hi
  have hl := h.len
  refine ⟨by rw [List.length_set]; exact hl, fun r hr => ?_⟩
  by_cases e : q = r
  · subst e
    simp only [hk]
    rw [List.getElem?_set_self (by omega)]
    simp
  · rw [List.getElem?_set_ne e, h.at_ r hr]
    cases hr' : kAt (Prod.fst : KV → Int) (r : Int) kv with
    | none => rfl
    | some x =>
      have hs := kAt_some hr'
      have hne : x.1 ≠ i := fun e2 => e (by
        have h1 := hs.1
        rw [e2, hi] at h1
        have h2 := hs.2
        simp only [Option.some.injEq] at h1
        rw [← h1] at h2
        simp only at h2
        omega)
      simp only [Array.mem_push]
      by_cases hm : x.1 ∈ seen
      · simp [hm]
      · simp [hm, hne]
theorem IdxI.mem {ms : List Mv} {ord : List Int} (h : IdxI ms ord) : ∀ y ∈ ord, ∃ (i : Nat) (m : Mv), y = (i : Int) ∧ ms[i]? = some m := fun y hy => by
  obtain ⟨i, hi⟩ := List.getElem?_of_mem hy
  obtain ⟨q, m, e, hq, _⟩ := h.idx i y hi
  exact ⟨q, m, e, hq⟩
theorem zip_sub {α γ : Type} : ∀ (xs : List α) (ys : List γ), List.Sublist ((xs.zip ys).map Prod.fst) xs
  | [], _ => by simp
  | x :: xs, [] => by simp
  | x :: xs, y :: ys => by simp only [List.zip_cons_cons, List.map_cons]; exact (zip_sub xs ys).cons_cons x
theorem kv_keys {ord : List Int} {cs : List Co} {n : Nat} (hd : ord.Nodup) : ((kvOf ord cs n).map Prod.fst).Nodup := by
  unfold kvOf
  exact (((List.drop_sublist n (ord.zip cs)).map Prod.fst).trans (zip_sub ord cs)).nodup hd
theorem kv_get {ord : List Int} {cs : List Co} {n i : Nat} : (kvOf ord cs n)[i]? = (ord.zip cs)[n + i]? := by unfold kvOf; rw [List.getElem?_drop]
theorem EngI.add {g : Eg} {p : Int} {KL KP KL' KP' : HP} {m : Mv} {t : Sk} {cs0 cs1 : List Co} {x : Ks} {kp' : List Ks} (h : EngI g p KL KP) (hf : chkE (g.ms ++ [m]) = 0) (hr : addRun g p m = .ok (t, cs0)) (ox : x.s = t)
    (hF : RunF g (start0 g.k p) (ordM (g.ms ++ [m])) KL KP KL' KP' x kp') (hN : newCs (kvOf (addOrd g m) cs0 (16 * (addAt g m / 16))) (g.cs ++ [Co0]) cs1) : EngI ⟨g.k, g.ms ++ [m], cs1, addOrd g m, kp', x⟩ p KL' KP' := by
  have hfi := chkM_none.1 (chkE_none.1 hf)
  have hi := h.ix.ins m
  have hc := h.ix.cut m.value
  have hcl := cutN_le (p := laterB m.value) (o := ordM g.ms)
  have hc2 : addAt g m ≤ g.ord.length := cutN_le
  have hol := h.ix.len
  have hgl := h.cl
  have hl0 := runL_len hr
  rw [ordM_len, List.length_append, List.length_singleton] at hl0
  refine ⟨hfi.1, hfi.2, hi, by rw [hF.kl, ordM_len], hF.kp, hF.cr, h.st, by rw [hN.1, List.length_append, List.length_append, hgl]; rfl, cs0, by rw [ox]; exact hr, fun i q hq => ?_⟩
  have hqm : q < g.ms.length + 1 := by
    obtain ⟨r, y, e, hy, _⟩ := hi.idx i _ hq
    have := (List.getElem?_eq_some_iff.1 hy).1
    rw [List.length_append, List.length_singleton] at this; omega
  have hn := hN.2 q (by rw [List.length_append, List.length_singleton]; omega)
  have hil : i < g.ms.length + 1 := by
    have := (List.getElem?_eq_some_iff.1 hq).1
    have h2 : (addOrd g m).length = (g.ms ++ [m]).length := hi.len
    rw [List.length_append, List.length_singleton] at h2
    exact h2 ▸ this
  obtain ⟨c, hcc⟩ : ∃ c, cs0[i]? = some c := ⟨_, List.getElem?_eq_getElem (by omega)⟩
  have hz : (addOrd g m |>.zip cs0)[i]? = some ((q : Int), c) := List.getElem?_zip_eq_some.2 ⟨hq, hcc⟩
  by_cases hi16 : i < 16 * (addAt g m / 16)
  · have hnone : kAt (Prod.fst : KV → Int) (q : Int) (kvOf (addOrd g m) cs0 (16 * (addAt g m / 16))) = none := by
      refine kAt_no fun y hy e => ?_
      obtain ⟨j, hj⟩ := List.getElem?_of_mem hy
      rw [kv_get] at hj
      obtain ⟨a, b⟩ := y
      obtain ⟨h1, _⟩ := List.getElem?_zip_eq_some.1 hj
      simp only at e
      subst e
      have := (List.getElem?_inj (List.getElem?_eq_some_iff.1 hq).1 hi.dis).1 (hq.trans h1.symm)
      omega
    rw [hnone] at hn
    have hia : i < addAt g m := by omega
    have hgo : g.ord[i]? = some (q : Int) := by
      have : (addOrd g m)[i]? = g.ord[i]? := by
        show (insN g.ord (addAt g m) _)[i]? = _
        unfold insN; rw [ins_get hc2, if_pos hia]
      rw [← this]; exact hq
    obtain ⟨cs', hrun, hcs⟩ := h.run
    have hq2 : q < g.ms.length := by
      obtain ⟨r, y, e, hy, _⟩ := h.ix.idx i _ hgo
      have := (List.getElem?_eq_some_iff.1 hy).1
      omega
    show cs1[q]? = cs0[i]?
    rw [hn]
    simp only
    rw [List.getElem?_append_left (by omega), hcs i q hgo]
    have hlo := ordM_len g.ms
    have hln := ordM_len (g.ms ++ [m])
    rw [List.length_append, List.length_singleton] at hln
    obtain ⟨u1, e1⟩ := runL_take_ok hrun (n := addAt g m) (by omega)
    obtain ⟨u2, e2⟩ := runL_take_ok hr (n := addAt g m) (by omega)
    rw [ordM_pre (by rw [← hc]; exact Nat.le_refl _), e1] at e2
    have he : cs'.take (addAt g m) = cs0.take (addAt g m) := by simpa using (congrArg (fun r => match r with | Except.ok x => x.2 | .error _ => []) e2)
    rw [← List.getElem?_take_of_lt hia, he, List.getElem?_take_of_lt hia]
  · have hk : kAt (Prod.fst : KV → Int) (q : Int) (kvOf (addOrd g m) cs0 (16 * (addAt g m / 16))) = some (i - 16 * (addAt g m / 16), ((q : Int), c)) :=
      kAt_at (kf := (Prod.fst : KV → Int)) (y := ((q : Int), c)) (kv_keys hi.dis) (by rw [kv_get, show 16 * (addAt g m / 16) + (i - 16 * (addAt g m / 16)) = i by omega]; exact hz)
    rw [hk] at hn
    show cs1[q]? = cs0[i]?
    rw [hn, hcc]
end Go.SL

namespace Go.SL
open Go
theorem leftC_le {n : Nat} {seen : Array Nat} : leftC n seen ≤ n := by
  unfold leftC; exact Nat.le_trans (List.length_filter_le ..) (by rw [List.length_range]; exact Nat.le_refl _)
structure Kd where
  code : ByteArray
  a : Option Addr
  c : Nat
  l : List ByteArray
abbrev kdF (x : Kd) : Value := St x.code
abbrev kdG (x : Kd) : Value := .slice x.a x.l.length x.c
def kdH (T : TypeId) (x : Kd) : HP := own T 1 x.a x.l.length x.c (x.l.flatMap Sb)
def kdAt (ks : List Kd) (p : ByteArray) : Kd := match kAt Kd.code p ks with | some q => q.2 | none => ⟨p, none, 0, []⟩
def kRest (T : TypeId) (ks : List Kd) (p : ByteArray) : HP := match kAt Kd.code p ks with | some q => big (kdH T) (ks.eraseIdx q.1) | none => big (kdH T) ks
theorem kd_le {ks : List Kd} {p : ByteArray} {n : Nat} (h : ∀ x ∈ ks, x.l.length ≤ n) : (kdAt ks p).l.length ≤ n := by
  unfold kdAt
  cases hk : kAt Kd.code p ks with
  | none => exact Nat.zero_le _
  | some q => exact h _ (List.mem_of_getElem? (kAt_some hk).1)
theorem kd_set {ks : List Kd} {y : Kd} {n : Nat} (h : ∀ x ∈ ks, x.l.length ≤ n) (hy : y.l.length ≤ n) : ∀ x ∈ kSet Kd.code y ks, x.l.length ≤ n := fun x hx => by
  unfold kSet at hx
  cases hk : kAt Kd.code y.code ks with
  | none => rw [hk] at hx; rcases List.mem_append.1 hx with hx | hx; exact h x hx; rw [List.mem_singleton.1 hx]; exact hy
  | some q => rw [hk] at hx; rcases List.mem_or_eq_of_mem_set hx with hx | rfl; exact h x hx; exact hy
theorem k_out {T : TypeId} {ks : List Kd} {p : ByteArray} : ∀ h, big (kdH T) ks h → star (own T 1 (kdAt ks p).a (kdAt ks p).l.length (kdAt ks p).c ((kdAt ks p).l.flatMap Sb)) (kRest T ks p) h := fun h hb => by
  unfold kdAt kRest
  cases hk : kAt Kd.code p ks with
  | none =>
    exact (⟨fun _ => none, h, fun b => .inl rfl, by funext b; simp [Hp.add], ⟨rfl, Nat.le_refl _, .inl ⟨rfl, fun _ => rfl⟩⟩, hb⟩ : star (own T 1 none 0 0 []) (big (kdH T) ks) h)
  | some q => exact big_out (f := kdH T) (kAt_some (x := q.2) (i := q.1) hk).1 h hb
theorem k_in {T : TypeId} {ks : List Kd} {y : Kd} : ∀ h, star (own T 1 y.a y.l.length y.c (y.l.flatMap Sb)) (kRest T ks y.code) h → big (kdH T) (kSet Kd.code y ks) h := fun h hb => by
  unfold kSet; unfold kRest at hb
  cases hk : kAt Kd.code y.code ks with
  | none => rw [hk] at hb; exact big_app (f := kdH T) h hb
  | some q =>
    rw [hk] at hb
    exact big_in (f := kdH T) (List.getElem?_eq_some_iff.1 (kAt_some (x := q.2) (i := q.1) hk).1).1 h hb
def ndH (T : TypeId) (a : Ac) : HP := own T 1 a.na a.need.length a.nc (a.need.flatMap Sb)
structure Chv where
  b : Nat
  bm : Nat
  v : Value
  w : Value
  m : List Ac
theorem alone_len {m : List Ac} {a : Ac} (h : aloneE m a = 0) : a.need.length ≤ 6 := by
  have := alone_zero.1 h
  unfold aloneB at this
  simp only [Bool.and_eq_true, decide_eq_true_eq] at this
  exact this.2.1
theorem chart_alone {xs m : List Ac} {i : Nat} {a : Ac} (hm : m.map Ac.st = (xs.take i).map Ac.st) (ha : xs[i]? = some a) (h : ¬ aloneE m a = 0) : ¬ chartB xs = true := fun hc => h (alone_zero.2 (by rw [alone_st hm]; exact (chart_iff.1 hc).2.1 i a ha))
theorem chart_below {xs m : List Ac} {i : Nat} {a : Ac} (hm : m.map Ac.st = xs.map Ac.st) (ha : xs[i]? = some a) (h : ¬ belowE m a = 0) : ¬ chartB xs = true := fun hc => h (below_zero.2 (by rw [below_st hm]; exact (chart_iff.1 hc).2.2 i a ha))
def belowTo (xs : List Ac) (i : Nat) : Prop := ∀ (j : Nat) (a : Ac), j < i → xs[j]? = some a → belowB xs a = true
theorem aloneTo.step {xs m : List Ac} {i : Nat} {a : Ac} (h : aloneTo xs i) (hm : m.map Ac.st = (xs.take i).map Ac.st) (ha : xs[i]? = some a) (h0 : aloneE m a = 0) : aloneTo xs (i + 1) := fun j y hj hy => by
  by_cases e : j = i
  · subst e; rw [ha] at hy; cases hy; rw [← alone_st hm]; exact alone_zero.1 h0
  · exact h j y (by omega) hy
theorem belowTo.step {xs m : List Ac} {i : Nat} {a : Ac} (h : belowTo xs i) (hm : m.map Ac.st = xs.map Ac.st) (ha : xs[i]? = some a) (h0 : belowE m a = 0) : belowTo xs (i + 1) := fun j y hj hy => by
  by_cases e : j = i
  · subst e; rw [ha] at hy; cases hy; rw [← below_st hm]; exact below_zero.1 h0
  · exact h j y (by omega) hy
theorem chart_good {xs : List Ac} (h1 : xs.length ≤ 400) (h2 : aloneTo xs xs.length) (h3 : belowTo xs xs.length) : chartB xs = true :=
  chart_iff.2 ⟨h1, fun j a ha => h2 j a (List.getElem?_eq_some_iff.1 ha).1 ha, fun j a ha => h3 j a (List.getElem?_eq_some_iff.1 ha).1 ha⟩
theorem st_len {m xs : List Ac} (h : m.map Ac.st = xs.map Ac.st) : m.length = xs.length := by have := congrArg List.length h; simpa using this
section
variable {P : Program} {β : Base} {n : Nat} {arr : Array Oper} {os : List Oper} {E : Env} {L L' M M' : List HP} {KK : Env → List HP → Prop} {T : TypeId} {ks : List Kd}
theorem RunL.kOut (p : ByteArray) (hp : Pick L (big (kdH T) ks) M) (h : RunL P β n arr os E (own T 1 (kdAt ks p).a (kdAt ks p).l.length (kdAt ks p).c ((kdAt ks p).l.flatMap Sb) :: kRest T ks p :: M) KK) : RunL P β n arr os E L KK :=
  RunL.mapL (fun w hs => Has.mono hs (pick_map hp k_out)) h
theorem RunL.kIn (T : TypeId) (ks : List Kd) (y : Kd) (hp : Pick L (own T 1 y.a y.l.length y.c (y.l.flatMap Sb)) M) (hq : Pick M (kRest T ks y.code) M') (h : RunL P β n arr os E (big (kdH T) (kSet Kd.code y ks) :: M') KK) : RunL P β n arr os E L KK :=
  RunL.mapL (fun w hs => Has.mono hs (pick_join hp hq k_in)) h
end
section
variable {P : Program} {β : Base} {E : Env} {L M : List HP} {K : Value → List HP → Prop} {d : Option Tmp} {ty : TypeId} {pos : String} {af : Array Edge} {gd : Option (Nat × Bool)} {x y : Operand} {t kt et : TypeId} {b : Nat}
theorem OpJ.lookupK {ks : List Kd} {c : ByteArray} (Mp : MPI P t kt et) (U : UI P kt .string) (Z : ZVI P et (.slice none 0 0)) (hx : E.ev x = some (.map (some b))) (hy : E.ev y = some (St c)) (p : Pick L (amap b kdF kdG ks) M)
    (h : K (.slice (kdAt ks c).a (kdAt ks c).l.length (kdAt ks c).c) L) : OpJ P β E L ⟨d, .lookup t x y false, ty, pos, af, gd⟩ K :=
  OpJ.lookup1 keyStr Mp U Z hx hy p (by unfold kdAt at h; revert h; cases kAt Kd.code c ks <;> exact fun h => h)
end
end Go.SL

namespace Go.SL
open Go Go.Proofs Go.Shelf Go.Sort
def srtS (ss : List ByteArray) : List ByteArray := ((ss.map fun s => s.data.toList).mergeSort fun x y => decide (x ≤ y)).map fun l => ⟨l.toArray⟩
theorem srtS_len (ss : List ByteArray) : (srtS ss).length = ss.length := by unfold srtS; rw [List.length_map, List.length_mergeSort, List.length_map]
theorem sb_map (ss : List ByteArray) : ss.flatMap Sb = ss.map St := by induction ss with | nil => rfl | cons x l ih => simp [Sb, ih]
theorem Has.growL {β : Base} {A : HP} : ∀ (os : List Obj) {w : World}, Has β A w → Has β A (grow w ⟨os⟩)
  | [], w, hs => by rw [show grow w ⟨[]⟩ = w from by unfold grow; simp]; exact hs
  | o :: os, w, hs => by
    have h := Has.growL os (w := w.alloc o) (Has.alloc hs o).right
    rw [show grow w ⟨o :: os⟩ = grow (w.alloc o) ⟨os⟩ from by unfold grow World.alloc; simp [← Array.toList_inj]]
    exact h
theorem putRow_heap {w : World} {b : Nat} {cs junk : List Value} {T : TypeId} {zs : List (List UInt8)} (hb : w.heap[b]? = some (blk (cs ++ junk) T)) (hl : zs.length = cs.length) :
    (putRow encStr w b 0 zs.toArray).heap = w.heap.setIfInBounds b (blk (zs.map encStr ++ junk) T) := by
  have hlt := (Array.getElem?_eq_some_iff.1 hb).1
  unfold putRow mapBlock
  apply Array.ext_getElem?
  intro j
  simp only [Array.getElem?_modify]
  by_cases hj : b = j
  · subst hj
    rw [if_pos rfl, hb, Array.getElem?_setIfInBounds_self_of_lt hlt]
    simp only [Option.map_some, onCells, blk, Option.some.injEq, Obj.cells.injEq, and_true]
    apply Array.ext_getElem?
    intro k
    unfold putCells
    rw [Array.getElem?_mapIdx]
    simp only [List.getElem?_toArray, Nat.zero_le, true_and, Nat.zero_add, List.size_toArray, Nat.sub_zero]
    by_cases hk : k < zs.length
    · have hk2 : k < cs.length := by omega
      have e1 : (cs ++ junk)[k]? = some cs[k] := by rw [List.getElem?_append_left hk2, List.getElem?_eq_getElem hk2]
      have e2 : (zs.map encStr ++ junk)[k]? = some (encStr zs[k]) := by rw [List.getElem?_append_left (by rw [List.length_map]; exact hk), List.getElem?_map, List.getElem?_eq_getElem hk]; rfl
      rw [e1, e2, Option.map_some, if_pos hk]; simp [hk]
    · have e1 : (cs ++ junk)[k]? = junk[k - cs.length]? := List.getElem?_append_right (by omega)
      have e2 : (zs.map encStr ++ junk)[k]? = junk[k - cs.length]? := by rw [List.getElem?_append_right (by rw [List.length_map]; omega), List.length_map, hl]
      rw [e1, e2]
      cases junk[k - cs.length]? with
      | none => rfl
      | some v => rw [Option.map_some, if_neg hk]
  · rw [if_neg hj, Array.getElem?_setIfInBounds_ne hj]
section
variable {P : Program} {ρ : Ren}
theorem ac_sortS (Y : Lays.n190 P ρ) (T : TypeId) (oa : Option Addr) (cap : Nat) (ss : List ByteArray) (hlen : ss.length ≤ 1000000) :
    AC P (ρ.f 190) ⟨[.slice oa ss.length cap]⟩ (stars [own T 1 oa ss.length cap (ss.flatMap Sb)]) (Ret (.tuple ⟨[]⟩) [own T 1 oa ss.length cap ((srtS ss).flatMap Sb)]) := fun w h hA hsub => by
  have hs : Has ⟨w, h⟩ (stars [own T 1 oa ss.length cap (ss.flatMap Sb)]) w := ⟨⟨h, hA, hsub, fun b hb => .inl hb⟩, ⟨fun _ _ _ => rfl, Nat.le_refl _, rfl, rfl, rfl⟩⟩
  by_cases hne : ss = []
  · subst hne
    refine Calls.mono (calls_of_every_depth fun D => AnyS.slices_Sort_string_none_alone Y D oa cap w) fun e w' he => ?_
    obtain ⟨rfl, rfl⟩ := he
    exact ⟨_, rfl, hs.mono fun hp hh => ⟨rfl, by rw [show srtS [] = [] from by simp [srtS]]; exact hh⟩⟩
  · have hcl : (ss.flatMap Sb).length = ss.length := by rw [sb_map, List.length_map]
    have hsl : 0 < ss.length := List.length_pos_iff.2 hne
    obtain ⟨⟨hp, ⟨p1, p2, hd, rfl, ⟨_, hnc, hcase⟩, hrest⟩, hsub1, hown1⟩, hr1⟩ := hs
    rcases hcase with ⟨hc0, he⟩ | ⟨b, junk, rfl, hjl, hpt⟩
    · omega
    · have hsb : Has ⟨w, h⟩ (star (pt b (blk (ss.flatMap Sb ++ junk) T)) (stars [])) w := ⟨⟨_, ⟨p1, p2, hd, rfl, hpt, hrest⟩, hsub1, hown1⟩, hr1⟩
      have hb := hsb.pt_heap
      have hH : Holds encStr w b 0 (ss.map fun s => s.data.toList).toArray := fun j hj => by
        have hj2 : j < ss.length := by simpa using hj
        refine ⟨?_, frozen_blk hb⟩
        rw [Nat.zero_add, cell_blk hb (u := St ss[j]) (by rw [List.getElem?_append_left (by omega), sb_map, List.getElem?_map, List.getElem?_eq_getElem hj2]; rfl)]
        simp [hj2]
      have hc := calls_of_every_depth fun D => AnyS.slices_Sort_string_alone Y D b 0 cap (ss.map fun s => s.data.toList) w hH (Array.getElem?_eq_some_iff.1 hb).1 (by rw [List.length_map]; omega)
      rw [List.length_map] at hc
      refine hc.mono fun e w' he => ?_
      obtain ⟨rfl, n, os, rfl⟩ := he
      have hah : Has ⟨w, h⟩ (star (pt b (blk (ss.flatMap Sb ++ junk) T)) (stars [])) (Sort.ahead w n) := hsb.same rfl rfl rfl rfl
      have hput := Has.setObj (o' := blk ((srtS ss).flatMap Sb ++ junk) T) (w' := putRow encStr (Sort.ahead w n) b 0 ((ss.map fun s => s.data.toList).mergeSort fun x y => decide (x ≤ y)).toArray) hah (by
        rw [putRow_heap (w := Sort.ahead w n) hb (by rw [List.length_mergeSort, List.length_map, hcl]), sb_map, srtS, List.map_map]; rfl) rfl rfl rfl
      have hg := Has.growL os.toList hput
      refine ⟨_, rfl, hg.mono fun hp2 hh => ⟨rfl, ?_⟩⟩
      obtain ⟨q1, q2, qd, rfl, hq1, hq2⟩ := hh
      refine ⟨q1, q2, qd, rfl, ⟨?_, hnc, .inr ⟨b, junk, rfl, ?_, hq1⟩⟩, hq2⟩
      · rw [sb_map, List.length_map, srtS_len, Nat.mul_one]
      · rw [sb_map, List.length_map, srtS_len]; rw [hcl] at hjl; exact hjl
end
end Go.SL

namespace Go.SL
open Go
def cut1 (c : UInt8) : List UInt8 → List UInt8 × List UInt8 × Bool
  | [] => ([], [], false)
  | x :: r => if x = c then ([], r, true) else (x :: (cut1 c r).1, (cut1 c r).2.1, (cut1 c r).2.2)
abbrev ba (l : List UInt8) : ByteArray := ⟨⟨l⟩⟩
def parseF : Nat → List UInt8 → List Tg → Option (List Tg)
  | 0, _, _ => none
  | n + 1, s, acc =>
    if (cut1 61 (cut1 44 s).1).2.2 = false ∨ 6 < acc.length then none
    else if (cut1 44 s).2.2 = true then parseF n (cut1 44 s).2.1 (acc ++ [⟨ba (cut1 61 (cut1 44 s).1).1, ba (cut1 61 (cut1 44 s).1).2.1⟩]) else some (acc ++ [⟨ba (cut1 61 (cut1 44 s).1).1, ba (cut1 61 (cut1 44 s).1).2.1⟩])
def parseT (s : ByteArray) : Option (List Tg) :=
  if s = bs0 then some [] else match parseF (s.size + 1) s.data.toList [] with | none => none | some l => if rightB l = true then some l else none
theorem cut1_len (c : UInt8) : ∀ s : List UInt8, (cut1 c s).2.1.length ≤ s.length ∧ ((cut1 c s).2.2 = true → (cut1 c s).2.1.length < s.length)
  | [] => by simp [cut1]
  | x :: r => by
    have ih := cut1_len c r
    simp only [cut1]; split
    · simp
    · simp only [List.length_cons]; exact ⟨by omega, fun h => by have := ih.2 h; omega⟩
theorem parseF_fuel : ∀ {n m : Nat} {s : List UInt8} {acc : List Tg}, s.length < n → s.length < m → parseF n s acc = parseF m s acc
  | 0, _, _, _, h, _ => by omega
  | _ + 1, 0, _, _, _, h => by omega
  | n + 1, m + 1, s, acc, h1, h2 => by
    simp only [parseF]
    split
    · rfl
    · split
      · rename_i h
        have := (cut1_len 44 s).2 h
        exact parseF_fuel (by omega) (by omega)
      · rfl
theorem cut1_hit {c : UInt8} : ∀ {a b : List UInt8}, (∀ x ∈ a, x ≠ c) → cut1 c (a ++ c :: b) = (a, b, true)
  | [], b, _ => by simp [cut1]
  | x :: a, b, h => by
    have ih := cut1_hit (c := c) (a := a) (b := b) fun y hy => h y (by simp [hy])
    simp only [List.cons_append, cut1, ih]; rw [if_neg (h x (by simp))]
def tb (t : Tg) : List UInt8 := t.name.data.toList ++ 61 :: t.value.data.toList
theorem app_data (a b : ByteArray) : (a ++ b).data.toList = a.data.toList ++ b.data.toList := by
  rw [ByteArray.data_append, Array.toList_append]
end Go.SL

namespace Go.SL
open Go
def insS (k : ByteArray) : List ByteArray → List ByteArray
  | [] => [k]
  | x :: xs => if blt x k = true then x :: insS k xs else if x = k then x :: xs else k :: x :: xs
def sortS (l : List ByteArray) : List ByteArray := l.foldl (fun ks x => insS x ks) []
theorem insS_mem {k y : ByteArray} : ∀ {ks : List ByteArray}, y ∈ insS k ks ↔ y = k ∨ y ∈ ks
  | [] => by simp [insS]
  | x :: xs => by
    simp only [insS]
    split
    · simp only [List.mem_cons, insS_mem (ks := xs)]
      constructor
      · rintro (h | h | h) <;> simp [h]
      · rintro (h | h | h) <;> simp [h]
    · split
      · rename_i h; subst h; simp
      · simp
theorem sortS_fold_mem {y : ByteArray} : ∀ {l ks : List ByteArray}, y ∈ l.foldl (fun ks x => insS x ks) ks ↔ y ∈ ks ∨ y ∈ l
  | [], ks => by simp
  | x :: l, ks => by
    rw [List.foldl_cons, sortS_fold_mem, insS_mem, List.mem_cons]
    constructor
    · rintro ((h | h) | h) <;> simp [h]
    · rintro (h | h | h) <;> simp [h]
theorem sortS_mem {y : ByteArray} {l : List ByteArray} : y ∈ sortS l ↔ y ∈ l := by unfold sortS; rw [sortS_fold_mem]; simp
def Ln.e (l : Ln) : Ln := { l with ta := none, tc := 0 }
def En.e (x : En) : En := { x with la := none, lc := 0, lines := x.lines.map Ln.e }
theorem lineE_e (l : Ln) : lineE l.e = lineE l := rfl
theorem ofCur_e (c : ByteArray) (ls : List Ln) : ofCur c (ls.map Ln.e) = (ofCur c ls).map Ln.e := by
  unfold ofCur
  rw [List.filter_map]; rfl
theorem amts_e (ls : List Ln) : amts (ls.map Ln.e) = amts ls := by unfold amts; rw [List.map_map]; rfl
theorem bass_e (ls : List Ln) : bass (ls.map Ln.e) = bass ls := by unfold bass; rw [List.map_map]; rfl
theorem balC_e (ls : List Ln) (c : ByteArray) : balC (ls.map Ln.e) c = balC ls c := by unfold balC; rw [ofCur_e, amts_e, bass_e]
theorem balB_e (ls : List Ln) : balB (ls.map Ln.e) = balB ls := by
  unfold balB
  rw [List.all_map]
  congr 1; funext l; exact balC_e ls l.cur
theorem linesE_e : ∀ (ls : List Ln) (i : Nat), linesE i (ls.map Ln.e) = linesE i ls
  | [], _ => rfl
  | l :: r, i => by simp only [List.map_cons, linesE, lineE_e, linesE_e r]
theorem chkN_e (x : En) : chkN x.e = chkN x := by
  have h : headE x.e = headE x := by unfold headE En.e; simp only [List.length_map]
  unfold chkN
  rw [h]
  simp only [En.e, linesE_e, balB_e]
def negL (x : Cl) : Ln := ⟨x.k.acc, x.k.cur, -x.amt, -x.base, x.k.partner, bs0, none, 0, (parseT x.k.tags).getD []⟩
def byC (c : ByteArray) (s : List Cl) : List Cl := s.filter fun x => decide (x.k.cur = c)
def against (s : List Cl) (to c : ByteArray) : Option Ln := if sumA (byC c s) = 0 ∧ sumB (byC c s) = 0 then none else some ⟨to, c, sumA (byC c s), sumB (byC c s), bs0, bs0, none, 0, []⟩
def curS (s : List Cl) : List ByteArray := sortS (s.map fun x => x.k.cur)
def transL (s : List Cl) (to : ByteArray) : List Ln := s.map negL ++ (curS s).filterMap (against s to)
def resM (xs : List Ac) (first : Int) (l : List En) (ent : ByteArray) (year book : Int) : List Cl × Int :=
  if ¬ (1 ≤ first ∧ first ≤ 12) then ([], 2) else if yearB first year = false then ([], 16)
  else if (replayL l ⟨ent, 0, lastF first year, book⟩).2 = 0 then
    match pickR xs (replayL l ⟨ent, 0, lastF first year, book⟩).1 with | none => ([], 12) | some s => (s, 0)
  else ([], (replayL l ⟨ent, 0, lastF first year, book⟩).2)
def en0 : En := ⟨0, bs0, 0, 0, 0, bs0, bs0, 0, none, 0, []⟩
def entM (xs : List Ac) (first : Int) (l : List En) (ent : ByteArray) (year book : Int) (to who : ByteArray) : En × Int :=
  if (resM xs first l ent year book).2 = 0 then
    if (match getL xs to with | none => false | some a => a.post && decide (a.kind = 3)) = false then (en0, 12)
    else if (resM xs first l ent year book).1 = [] then (en0, 18)
    else
      let x : En := ⟨0, ent, book, lastF first year, 4, bs0, who, 0, none, 0, transL (resM xs first l ent year book).1 to⟩
      if (chkN x).2 = 0 then (x, 0) else (en0, (chkN x).2)
  else (en0, (resM xs first l ent year book).2)
end Go.SL

namespace Go.SL
open Go
theorem chart_need {m xs : List Ac} (h : m.map Ac.st = xs.map Ac.st) (hc : chartB xs = true) : ∀ a ∈ m, a.need.length ≤ 6 := fun a ha => by
  obtain ⟨j, hj, rfl⟩ := List.getElem_of_mem ha
  have hl := st_len h
  have hx : xs[j]? = some xs[j] := List.getElem?_eq_getElem (by omega)
  have h1 := alone_len (alone_zero.2 ((chart_iff.1 hc).2.1 j _ hx))
  have e : (m.map Ac.st)[j]? = (xs.map Ac.st)[j]? := by rw [h]
  rw [List.getElem?_map, List.getElem?_map, hx, List.getElem?_eq_getElem hj] at e
  simp only [Option.map_some, Option.some.injEq] at e
  have e2 := congrArg Ac.need e
  simp only [Ac.st] at e2
  rw [e2]; exact h1
def PickI (m : List Ac) (s : List Cl) (i : Nat) (acc : List Cl) : Prop := pickR m s = (pickR m (s.drop i)).map (fun t => acc ++ t) ∧ acc.length ≤ i
theorem PickI.start {m : List Ac} {s : List Cl} : PickI m s 0 [] := ⟨by simp, Nat.le_refl _⟩
theorem drop_at {α : Type} {s : List α} {i : Nat} {x : α} (h : s[i]? = some x) : s.drop i = x :: s.drop (i + 1) := by
  obtain ⟨hi, rfl⟩ := List.getElem?_eq_some_iff.1 h
  exact List.drop_eq_getElem_cons hi
theorem PickI.bad {m : List Ac} {s acc : List Cl} {i : Nat} {x : Cl} (h : PickI m s i acc) (hx : s[i]? = some x) (hg : getL m x.k.acc = none) : pickR m s = none := by
  rw [h.1, drop_at hx, pickR, hg]; rfl
theorem PickI.step {m : List Ac} {s acc : List Cl} {i : Nat} {x : Cl} {a : Ac} (h : PickI m s i acc) (hx : s[i]? = some x) (hg : getL m x.k.acc = some a) (hp : a.post = true) :
    PickI m s (i + 1) (if a.kind = 4 ∨ a.kind = 5 then acc ++ [x] else acc) := by
  refine ⟨?_, ?_⟩
  · rw [h.1, drop_at hx, pickR, hg]
    simp only [hp, if_true, Option.map_map]
    congr 1; funext t
    by_cases hk : a.kind = 4 ∨ a.kind = 5 <;> simp [hk]
  · have := h.2
    split
    · rw [List.length_append, List.length_singleton]; omega
    · omega
theorem PickI.done {m : List Ac} {s acc : List Cl} {i : Nat} (h : PickI m s i acc) (hi : s.length ≤ i) : pickR m s = some acc := by
  rw [h.1, List.drop_eq_nil_of_le hi, pickR]; simp
theorem res_pick {first year : Int} (hf : 1 ≤ first ∧ first ≤ 12) (hy : yearB first year = true) (m : List Ac) (l : List En) (ent : ByteArray) (book : Int) (h : (replayL l ⟨ent, 0, lastF first year, book⟩).2 = 0) : resM m first l ent year book = match pickR m (replayL l ⟨ent, 0, lastF first year, book⟩).1 with | none => ([], 12) | some s => (s, 0) := by
  unfold resM; rw [if_neg (fun h => h hf), hy, if_neg (by decide), if_pos h]; first | done | rfl
theorem res_pickS {first year : Int} (hf : 1 ≤ first ∧ first ≤ 12) (hy : yearB first year = true) {m : List Ac} {l : List En} {ent : ByteArray} {book : Int} {s : List Cl} (h : (replayL l ⟨ent, 0, lastF first year, book⟩).2 = 0) (hp : pickR m (replayL l ⟨ent, 0, lastF first year, book⟩).1 = some s) : resM m first l ent year book = (s, 0) := by
  rw [res_pick hf hy m l ent book h, hp]
theorem lk_some {m : List Ac} {c : ByteArray} {a : Ac} (h : getL m c = some a) : lkA m c = a := by unfold lkA; rw [h]; rfl
theorem lk_none {m : List Ac} {c : ByteArray} (h : getL m c = none) : lkA m c = Ac0 := by unfold lkA; rw [h]; rfl
theorem lk_mem {m : List Ac} {c : ByteArray} {a : Ac} (h : getL m c = some a) : a ∈ m := List.mem_of_find?_eq_some h
theorem lk_rds {T : TypeId} {m : List Ac} {c : ByteArray} : RdS (big (ndH T) m) (lkA m c).na ((lkA m c).need.flatMap Sb) := by
  cases h : getL m c with
  | none => rw [lk_none h]; exact RdS.nil
  | some a => rw [lk_some h]; exact big_rds (f := ndH T) (lk_mem h) own.rds
theorem lk_need {m : List Ac} {c : ByteArray} (h : ∀ a ∈ m, a.need.length ≤ 6) : (lkA m c).need.length ≤ 6 := by
  cases hg : getL m c with
  | none => rw [lk_none hg]; exact Nat.zero_le _
  | some a => rw [lk_some hg]; exact h a (lk_mem hg)
end Go.SL

namespace Go.SL
open Go
def finP (o : Option (List Tg)) : Option (List Tg) := match o with | none => none | some l => if rightB l = true then some l else none
abbrev it1 (l : List UInt8) : List UInt8 := (cut1 44 l).1
abbrev nxT (l : List UInt8) (acc : List Tg) : List Tg := acc ++ [⟨ba (cut1 61 (it1 l)).1, ba (cut1 61 (it1 l)).2.1⟩]
structure PaI (s : ByteArray) (more : Bool) (l : List UInt8) (acc : List Tg) : Prop where
  eq : parseT s = finP (if more = true then parseF (l.length + 1) l acc else some acc)
  len : acc.length ≤ 7
  sz : l.length ≤ s.size
theorem cut1_fst (c : UInt8) : ∀ s : List UInt8, (cut1 c s).1.length ≤ s.length
  | [] => by simp [cut1]
  | x :: r => by
    have ih := cut1_fst c r
    simp only [cut1]; split <;> simp <;> omega
theorem PaI.start {s : ByteArray} : PaI s (decide (s ≠ bs0)) s.data.toList [] := by
  refine ⟨?_, by simp, Nat.le_refl _⟩
  unfold parseT
  by_cases h : s = bs0
  · subst h; simp [finP]; rfl
  · rw [if_neg h, if_pos (by simpa using h)]; rfl
theorem PaI.bad {s : ByteArray} {l : List UInt8} {acc : List Tg} (h : PaI s true l acc) (hb : (cut1 61 (it1 l)).2.2 = false ∨ 6 < acc.length) : parseT s = none := by
  rw [h.eq, if_pos rfl, parseF, if_pos hb]; rfl
theorem PaI.step {s : ByteArray} {l : List UInt8} {acc : List Tg} (h : PaI s true l acc) (hb : ¬ ((cut1 61 (it1 l)).2.2 = false ∨ 6 < acc.length)) : PaI s (cut1 44 l).2.2 (cut1 44 l).2.1 (nxT l acc) := by
  have hl := cut1_len 44 l
  refine ⟨?_, by simp only [List.length_append, List.length_singleton]; omega, Nat.le_trans hl.1 h.sz⟩
  rw [h.eq, if_pos rfl, parseF, if_neg hb]
  by_cases hm : (cut1 44 l).2.2 = true
  · rw [if_pos hm, if_pos hm, parseF_fuel (hl.2 hm) (Nat.lt_succ_self _)]
  · rw [if_neg hm, if_neg hm]
theorem PaI.right {s : ByteArray} {l : List UInt8} {acc : List Tg} (h : PaI s false l acc) (hr : rightB acc = true) : parseT s = some acc := by
  rw [h.eq, if_neg (by decide)]; simp [finP, hr]
theorem PaI.wrong {s : ByteArray} {l : List UInt8} {acc : List Tg} (h : PaI s false l acc) (hr : ¬ rightB acc = true) : parseT s = none := by
  rw [h.eq, if_neg (by decide)]; simp [finP, hr]
def paM (more : Bool) (l : List UInt8) : Nat := if more = true then l.length + 1 else 0
theorem paM_lt {l : List UInt8} : paM (cut1 44 l).2.2 (cut1 44 l).2.1 < paM true l := by
  have hl := cut1_len 44 l
  unfold paM
  by_cases hm : (cut1 44 l).2.2 = true
  · rw [if_pos hm, if_pos rfl]; have := hl.2 hm; omega
  · rw [if_neg hm, if_pos rfl]; omega
end Go.SL

namespace Go.SL
open Go Go.Proofs Go.Shelf
theorem cut1_split (c : UInt8) : ∀ s : List UInt8, (cut1 c s).2.2 = true → s = (cut1 c s).1 ++ c :: (cut1 c s).2.1
  | [], h => by simp [cut1] at h
  | x :: r, h => by
    have ih := cut1_split c r
    simp only [cut1] at h ⊢
    split
    · rename_i e; subst e; rfl
    · rename_i e; rw [if_neg e] at h; simp only [List.cons_append]; rw [← ih h]
theorem cut1_all (c : UInt8) : ∀ s : List UInt8, ¬ (cut1 c s).2.2 = true → cut1 c s = (s, [], false)
  | [], h => rfl
  | x :: r, h => by
    have ih := cut1_all c r
    simp only [cut1] at h ⊢
    split
    · rename_i e; rw [if_pos e] at h; exact absurd rfl h
    · rename_i e; rw [if_neg e] at h; rw [ih h]
theorem take_split {s a b : List UInt8} {c : UInt8} (h : s = a ++ c :: b) : s.take a.length = a ∧ s.drop (a.length + 1) = b := by
  subst h
  exact ⟨List.take_left, by rw [← List.drop_drop, List.drop_left]; rfl⟩
section
variable {P : Program} {ρ : Ren}
end
end Go.SL

namespace Go.SL
open Go Go.Proofs Go.Shelf
abbrev ixc (c : UInt8) (s : List UInt8) : Int := if (cut1 c s).2.2 = true then ((cut1 c s).1.length : Int) else -1
theorem lib_ib (c : UInt8) : ∀ s : List UInt8, Lib.indexByte s c = ixc c s
  | [] => by simp [Lib.indexByte, cut1]
  | x :: r => by
    have ih := lib_ib c r
    unfold ixc at ih ⊢
    rw [Lib.indexByte, ih]
    by_cases h : x = c
    · subst h; simp [cut1]
    · have h2 : (x == c) = false := by simpa using h
      simp only [cut1, if_neg h, h2, Bool.false_eq_true, if_false]
      by_cases hc : (cut1 c r).2.2 = true
      · simp only [hc, if_true, List.length_cons]
        have : ¬ (((cut1 c r).1.length : Int) == -1) = true := by simp
        rw [if_neg this]; push_cast; rfl
      · simp [hc]
theorem cut1_lt {c : UInt8} {s : List UInt8} (h : (cut1 c s).2.2 = true) : (cut1 c s).1.length + 1 ≤ s.length := by
  have := congrArg List.length (cut1_split c s h)
  simp only [List.length_append, List.length_cons] at this
  omega
section
variable {P : Program} {ρ : Ren}
theorem ac_ib (Y : Lays.n217 P ρ) (s : ByteArray) (c : UInt8) : AC P (ρ.f 217) ⟨[St s, .int .u8 (c.toNat : Int)]⟩ (stars []) (Ret (I (ixc c s.data.toList)) []) := fun w h hA hsub => by
  have h0 : Has ⟨w, h⟩ (stars []) w := ⟨⟨h, hA, hsub, fun b hb => .inl hb⟩, ⟨fun _ _ _ => rfl, Nat.le_refl _, rfl, rfl, rfl⟩⟩
  refine (Any.stringslite_IndexByte Y s c.toNat w).mono fun e w' he => ?_
  obtain ⟨rfl, hw⟩ := he
  subst hw
  refine ⟨_, rfl, (h0.same rfl rfl rfl rfl).mono fun hp hh => ⟨?_, hh⟩⟩
  rw [lib_ib]
  simp
end
theorem ba_lo (l : List UInt8) (i : Nat) : (ba l).extract 0 i = ba (l.take i) := by
  have h : ((ba l).extract 0 i).data = (ba (l.take i)).data := by
    rw [ByteArray.data_extract]
    apply Array.ext'
    rw [Array.toList_extract]
    simp [List.extract]
  exact ByteArray.ext h
theorem ba_hi (l : List UInt8) (i : Nat) : (ba l).extract i (ba l).size = ba (l.drop i) := by
  have h : ((ba l).extract i (ba l).size).data = (ba (l.drop i)).data := by
    rw [ByteArray.data_extract]
    apply Array.ext'
    rw [Array.toList_extract]
    show List.extract l i l.length = l.drop i
    unfold List.extract
    rw [List.take_of_length_le (by rw [List.length_drop]; omega)]
  exact ByteArray.ext h
theorem ba_take {c : UInt8} {l : List UInt8} (h : (cut1 c l).2.2 = true) : (ba l).extract 0 (cut1 c l).1.length = ba (cut1 c l).1 := by
  rw [ba_lo, (take_split (cut1_split c l h)).1]
theorem ba_drop {c : UInt8} {l : List UInt8} (h : (cut1 c l).2.2 = true) : (ba l).extract ((cut1 c l).1.length + 1) (ba l).size = ba (cut1 c l).2.1 := by
  rw [ba_hi, (take_split (cut1_split c l h)).2]
end Go.SL

namespace Go.SL
open Go
end Go.SL

namespace Go.SL
open Go
def noTo (xs : List Ac) (c : ByteArray) (i : Nat) : Prop := ∀ (j : Nat) (a : Ac), j < i → xs[j]? = some a → a.code ≠ c
theorem noTo.zero {xs : List Ac} {c : ByteArray} : noTo xs c 0 := fun j a h => by omega
theorem noTo.step {xs : List Ac} {c : ByteArray} {i : Nat} {a : Ac} (h : noTo xs c i) (ha : xs[i]? = some a) (hn : ¬ a.code = c) : noTo xs c (i + 1) := fun j b hj hb => by
  by_cases e : j = i
  · subst e; rw [ha] at hb; cases hb; exact hn
  · exact h j b (by omega) hb
theorem noTo.all {xs : List Ac} {c : ByteArray} {i : Nat} (h : noTo xs c i) (hi : xs.length ≤ i) : kAt Ac.code c xs = none := kAt_no fun a ha => by
  obtain ⟨j, hj, rfl⟩ := List.getElem_of_mem ha
  exact h j _ (Nat.lt_of_lt_of_le hj hi) (List.getElem?_eq_getElem hj)
theorem noTo.at : ∀ {xs : List Ac} {c : ByteArray} {i : Nat} {a : Ac}, noTo xs c i → xs[i]? = some a → a.code = c → kAt Ac.code c xs = some (i, a)
  | x :: xs, c, 0, a, h, ha, hc => by simp at ha; subst ha; simp only [kAt]; rw [if_pos hc]
  | x :: xs, c, i + 1, a, h, ha, hc => by
    simp only [kAt]
    rw [if_neg (h 0 x (by omega) rfl), noTo.at (xs := xs) (i := i) (fun j b hj hb => h (j + 1) b (by omega) (by simpa using hb)) (by simpa using ha) hc]; rfl
theorem code_ne {c : ByteArray} (h : codeB c = true) : ¬ c = bs0 := fun e => by
  have h2 : codeB bs0 = false := by with_unfolding_all rfl
  rw [e, h2] at h; cases h
theorem aloneTo.at {xs : List Ac} {i : Nat} {a : Ac} (h : aloneTo xs i) (ha : xs[i]? = some a) (hb : aloneB (xs.take i) a = true) : aloneTo xs (i + 1) := fun j b hj hx => by
  by_cases e : j = i
  · subst e; rw [ha] at hx; cases hx; exact hb
  · exact h j b (by omega) hx
theorem belowTo.at {xs : List Ac} {i : Nat} {a : Ac} (h : belowTo xs i) (ha : xs[i]? = some a) (hb : belowB xs a = true) : belowTo xs (i + 1) := fun j b hj hx => by
  by_cases e : j = i
  · subst e; rw [ha] at hx; cases hx; exact hb
  · exact h j b (by omega) hx
end Go.SL

namespace Go.SL
open Go
theorem kAt_setS {α κ : Type} [DecidableEq κ] {kf : α → κ} {k : κ} {y : α} : ∀ {xs : List α} {i : Nat} {z : α}, kAt kf (kf y) xs = some (i, z) → (kAt kf k (xs.set i y)).map Prod.snd = if kf y = k then some y else (kAt kf k xs).map Prod.snd
  | [], _, _, h => by simp [kAt] at h
  | x :: xs, i, z, h => by
    simp only [kAt] at h
    split at h
    · rename_i hx
      simp only [Option.some.injEq, Prod.mk.injEq] at h
      obtain ⟨rfl, rfl⟩ := h
      simp only [List.set_cons_zero, kAt]
      by_cases hk : kf y = k
      · simp [hk]
      · have : ¬ kf x = k := fun e => hk (hx ▸ e)
        simp [hk, this]
    · rename_i hx
      cases hq : kAt kf (kf y) xs with
      | none => rw [hq] at h; cases h
      | some q =>
        rw [hq] at h
        simp only [Option.map_some, Option.some.injEq, Prod.mk.injEq] at h
        obtain ⟨rfl, rfl⟩ := h
        have ih := kAt_setS (k := k) (i := q.1) (z := q.2) hq
        simp only [List.set_cons_succ, kAt]
        by_cases hk : kf x = k
        · have : ¬ kf y = k := fun e => hx (hk.trans e.symm)
          simp [hk, this]
        · rw [if_neg hk, if_neg hk]
          cases h1 : kAt kf k (xs.set q.1 y) <;> cases h2 : kAt kf k xs <;> rw [h1, h2] at ih <;> simpa using ih
theorem kAt_appS {α κ : Type} [DecidableEq κ] {kf : α → κ} {k : κ} {y : α} : ∀ {xs : List α}, kAt kf (kf y) xs = none → (kAt kf k (xs ++ [y])).map Prod.snd = if kf y = k then some y else (kAt kf k xs).map Prod.snd
  | [], _ => by simp only [List.nil_append, kAt]; split <;> rfl
  | x :: xs, h => by
    simp only [kAt] at h
    split at h
    · cases h
    · rename_i hx
      have hn : kAt kf (kf y) xs = none := by
        cases hq : kAt kf (kf y) xs with
        | none => rfl
        | some q => rw [hq] at h; cases h
      have ih := kAt_appS (k := k) hn
      simp only [List.cons_append, kAt]
      by_cases hk : kf x = k
      · have : ¬ kf y = k := fun e => hx (hk.trans e.symm)
        simp [hk, this]
      · rw [if_neg hk, if_neg hk]
        cases h1 : kAt kf k (xs ++ [y]) <;> cases h2 : kAt kf k xs <;> rw [h1, h2] at ih <;> simpa using ih
theorem kAt_kSet {α κ : Type} [DecidableEq κ] {kf : α → κ} {k : κ} {y : α} {xs : List α} : (kAt kf k (kSet kf y xs)).map Prod.snd = if kf y = k then some y else (kAt kf k xs).map Prod.snd := by
  unfold kSet
  cases h : kAt kf (kf y) xs with
  | none => exact kAt_appS h
  | some q => exact kAt_setS (i := q.1) (z := q.2) h
theorem kSet_keys {α κ : Type} [DecidableEq κ] {kf : α → κ} {y : α} {xs : List α} : (kSet kf y xs).map kf = if kf y ∈ xs.map kf then xs.map kf else xs.map kf ++ [kf y] := by
  unfold kSet
  cases h : kAt kf (kf y) xs with
  | none =>
    have hn : ¬ kf y ∈ xs.map kf := fun hm => by
      obtain ⟨x, hx, e⟩ := List.mem_map.1 hm
      exact kAt_none h x hx e
    rw [if_neg hn]; simp
  | some q =>
    obtain ⟨h1, h2⟩ := kAt_some (x := q.2) (i := q.1) h
    have hm : kf y ∈ xs.map kf := List.mem_map.2 ⟨q.2, List.mem_of_getElem? h1, h2⟩
    rw [if_pos hm]
    show (xs.set q.1 y).map kf = _
    rw [List.map_set]
    exact setId (by rw [List.getElem?_map, h1]; exact congrArg some h2)
structure Am where
  cur : ByteArray
  a : Int
  b : Int
def amAt (ms : List Am) (c : ByteArray) : Am := ((kAt Am.cur c ms).map Prod.snd).getD ⟨c, 0, 0⟩
section
variable {P : Program} {β : Base} {E : Env} {L M : List HP} {K : Value → List HP → Prop} {d : Option Tmp} {ty : TypeId} {pos : String} {af : Array Edge} {gd : Option (Nat × Bool)} {x y : Operand} {t kt et : TypeId} {b : Nat}
end
abbrev wr (n : Int) : Int := IntKind.i64.wrap n
theorem wr_add (a b : Int) : wr (wr a + b) = wr (a + b) := by unfold wr; rw [IntKind.wrap_i64, IntKind.wrap_i64, IntKind.wrap_i64]; omega
structure AmI (ms : List Am) (p : List Cl) : Prop where
  val : ∀ c, (amAt ms c).a = wr (sumA (byC c p)) ∧ (amAt ms c).b = wr (sumB (byC c p))
  nod : (ms.map Am.cur).Nodup
  mem : ∀ c, c ∈ ms.map Am.cur ↔ c ∈ p.map fun x => x.k.cur
  len : ms.length ≤ p.length
theorem AmI.start : AmI [] [] := ⟨fun c => ⟨show (0 : Int) = wr 0 by decide, show (0 : Int) = wr 0 by decide⟩, List.nodup_nil, fun c => by simp, Nat.le_refl _⟩
abbrev amNew (ms : List Am) (x : Cl) : Am := ⟨x.k.cur, wr ((amAt ms x.k.cur).a + x.amt), wr ((amAt ms x.k.cur).b + x.base)⟩
theorem byC_app (c : ByteArray) (p q : List Cl) : byC c (p ++ q) = byC c p ++ byC c q := List.filter_append ..
theorem AmI.step {ms : List Am} {p : List Cl} (h : AmI ms p) (x : Cl) : AmI (kSet Am.cur (amNew ms x) ms) (p ++ [x]) := by
  have hkeys := kSet_keys (kf := Am.cur) (y := amNew ms x) (xs := ms)
  refine ⟨fun c => ?_, ?_, fun c => ?_, ?_⟩
  · have hv := h.val c
    unfold amAt
    rw [kAt_kSet, byC_app]
    by_cases e : x.k.cur = c
    · subst e
      rw [if_pos rfl]
      have hb : byC x.k.cur [x] = [x] := by simp [byC]
      rw [hb]
      simp only [Option.getD_some, sumA, sumB, List.map_append, List.sum_append_int, List.map_cons, List.map_nil, List.sum_cons, List.sum_nil, Int.add_zero]
      rw [hv.1, hv.2, wr_add, wr_add]
      exact ⟨rfl, rfl⟩
    · rw [if_neg e]
      have hb : byC c [x] = [] := by simp [byC, e]
      rw [hb, List.append_nil]; exact hv
  · rw [hkeys]
    split
    · exact h.nod
    · rename_i hn
      exact List.nodup_append.2 ⟨h.nod, by simp, fun a ha b hb e => by rw [List.mem_singleton.1 hb] at e; subst e; exact hn ha⟩
  · rw [hkeys, List.map_append, List.mem_append, ← h.mem c]
    split
    · rename_i hm
      simp only [List.map_cons, List.map_nil, List.mem_singleton]
      exact ⟨fun h => .inl h, fun h => h.elim id fun e => by rw [e]; exact hm⟩
    · rw [List.mem_append]; simp
  · have h2 := congrArg List.length hkeys
    have h3 := h.len
    rw [List.length_map] at h2
    rw [h2]
    split <;> simp <;> omega
def tagH (T : TypeId) (x : Ln) : HP := own T 2 x.ta x.tags.length x.tc (x.tags.flatMap Tg.c)
end Go.SL

namespace Go.SL
open Go
abbrev enMk (ent who : ByteArray) (book last : Int) (ls : List Ln) : En := ⟨0, ent, book, last, 4, bs0, who, 0, none, 0, ls⟩
theorem en_R0 {A B R : HP} (h : Rd R ⟨0, 0, none⟩ lensC) : Rd (stars [A, B, R]) ⟨0, 0, none⟩ lensC := (RdS.inr (RdS.inr (RdS.inl (Rd.rds h)))).rd (by simp [lensC, lensL])
section
variable {m : List Ac} {first : Int} {l : List En} {ent : ByteArray} {year book : Int} {to who : ByteArray} {a : Ac} {ls : List Ln} {la : Option Addr} {lc : Nat}
end
end Go.SL

namespace Go.SL
open Go
theorem linesE_zero : ∀ {ls : List Ln} {i : Nat}, linesE i ls = none → ∀ l ∈ ls, lineE l = 0
  | [], _, _, l, hl => by cases hl
  | x :: r, i, h, l, hl => by
    simp only [linesE] at h
    split at h
    · rename_i h0
      rcases List.mem_cons.1 hl with rfl | hl
      · exact h0
      · exact linesE_zero h l hl
    · cases h
theorem linesE_some : ∀ {ls : List Ln} {i : Nat} {q : Nat × Int}, linesE i ls = some q → q.2 ≠ 0
  | [], _, _, h => by cases h
  | x :: r, i, q, h => by
    simp only [linesE] at h
    split at h
    · exact linesE_some h
    · rename_i h0; cases h; exact h0
theorem chk_lines {e : En} (h : (chkN e).2 = 0) : ∀ l ∈ e.lines, lineE l = 0 := by
  unfold chkN at h
  by_cases hh : headE e = 0
  · rw [if_pos hh] at h
    cases hl : linesE 0 e.lines with
    | none => exact linesE_zero hl
    | some q =>
      rw [hl] at h
      intro l hm
      exact absurd h (linesE_some hl)
  · rw [if_neg hh] at h; exact absurd h hh
end Go.SL

namespace Go.SL
open Go
structure IsSheet (s : List Cl) : Prop where
  pair : s.Pairwise fun a b => ltK a.k b.k
  some : ∀ x ∈ s, ¬ (x.amt = 0 ∧ x.base = 0)
  fit : ∀ x ∈ s, withinB x.amt = true ∧ withinB x.base = true
theorem getA_cons (x : Cl) (s : List Cl) (k : Ky) : getA (x :: s) k = (if x.k = k then x.amt else 0) + getA s k := by
  unfold getA byK sumA
  by_cases h : x.k = k
  · rw [List.filter_cons_of_pos (by simpa using h), if_pos h]; rfl
  · rw [List.filter_cons_of_neg (by simpa using h), if_neg h, Int.zero_add]
theorem getB_cons (x : Cl) (s : List Cl) (k : Ky) : getB (x :: s) k = (if x.k = k then x.base else 0) + getB s k := by
  unfold getB byK sumB
  by_cases h : x.k = k
  · rw [List.filter_cons_of_pos (by simpa using h), if_pos h]; rfl
  · rw [List.filter_cons_of_neg (by simpa using h), if_neg h, Int.zero_add]
theorem get_none {s : List Cl} {k : Ky} (h : ∀ x ∈ s, x.k ≠ k) : getA s k = 0 ∧ getB s k = 0 := by
  have : byK k s = [] := List.filter_eq_nil_iff.2 fun x hx => by simpa using h x hx
  unfold getA getB; rw [this]; exact ⟨rfl, rfl⟩
theorem ofK_sheet {l : List Cl} : ∀ {ks : List Ky} {s : List Cl}, ks.Pairwise ltK → ofK l ks = some s → IsSheet s ∧ (∀ x ∈ s, x.k ∈ ks) ∧ (∀ k ∈ ks, getA s k = getA l k ∧ getB s k = getB l k)
  | [], s, _, h => by
    simp only [ofK, Option.some.injEq] at h; subst h
    exact ⟨⟨List.Pairwise.nil, (fun x hx => by cases hx), (fun x hx => by cases hx)⟩, (fun x hx => by cases hx), fun k hk => by cases hk⟩
  | k :: ks, s, hp, h => by
    rw [ofK_cons] at h
    rw [List.pairwise_cons] at hp
    split at h
    · rename_i hw
      cases hk : ofK l ks with
      | none => rw [hk] at h; cases h
      | some t =>
        obtain ⟨h1, h2, h3⟩ := ofK_sheet hp.2 hk
        rw [hk] at h
        simp only [Option.map_some, Option.some.injEq] at h
        have hnk : ∀ x ∈ t, x.k ≠ k := fun x hx e => by have := hp.1 _ (h2 x hx); rw [e] at this; exact ltK_irrefl _ this
        have hn := get_none hnk
        have hne : ∀ k' ∈ ks, k ≠ k' := fun k' hk' e => by have := hp.1 _ hk'; rw [e] at this; exact ltK_irrefl _ this
        split at h
        · rename_i hz
          subst h
          refine ⟨h1, fun x hx => List.mem_cons_of_mem _ (h2 x hx), fun k' hk' => ?_⟩
          rcases List.mem_cons.1 hk' with rfl | hk'
          · rw [hn.1, hn.2]; exact ⟨hz.1.symm, hz.2.symm⟩
          · exact h3 k' hk'
        · rename_i hz
          subst h
          refine ⟨⟨List.Pairwise.cons (fun x hx => hp.1 _ (h2 x hx)) h1.pair, fun x hx => ?_, fun x hx => ?_⟩, fun x hx => ?_, fun k' hk' => ?_⟩
          · rcases List.mem_cons.1 hx with rfl | hx
            · exact hz
            · exact h1.some x hx
          · rcases List.mem_cons.1 hx with rfl | hx
            · exact hw
            · exact h1.fit x hx
          · rcases List.mem_cons.1 hx with rfl | hx
            · simp
            · exact List.mem_cons_of_mem _ (h2 x hx)
          · rw [getA_cons, getB_cons]
            rcases List.mem_cons.1 hk' with rfl | hk'
            · rw [if_pos rfl, if_pos rfl, hn.1, hn.2, Int.add_zero, Int.add_zero]; exact ⟨rfl, rfl⟩
            · rw [if_neg (hne k' hk'), if_neg (hne k' hk'), Int.zero_add, Int.zero_add]; exact h3 k' hk'
    · cases h
theorem get_keys {l : List Cl} {k : Ky} (h : k ∉ keysL l) : getA l k = 0 ∧ getB l k = 0 := get_none fun x hx e => h (keysL_mem.2 ⟨x, hx, e⟩)
theorem sheet_is {l s : List Cl} (h : sheetL l = some s) : IsSheet s ∧ ∀ k, getA s k = getA l k ∧ getB s k = getB l k := by
  obtain ⟨h1, h2, h3⟩ := ofK_sheet (keysL_pair l) h
  refine ⟨h1, fun k => ?_⟩
  by_cases hk : k ∈ keysL l
  · exact h3 k hk
  · have e1 := get_keys hk
    have e2 := get_none (s := s) (k := k) fun x hx e => hk (by rw [← e]; exact h2 x hx)
    omega
theorem IsSheet.filter {s : List Cl} (h : IsSheet s) (p : Cl → Bool) : IsSheet (s.filter p) :=
  ⟨h.pair.filter p, fun x hx => h.some x ((List.mem_filter.1 hx).1), fun x hx => h.fit x ((List.mem_filter.1 hx).1)⟩
def incB (xs : List Ac) (c : ByteArray) : Bool := match getL xs c with | none => false | some a => decide (a.kind = 4 ∨ a.kind = 5)
def postB (xs : List Ac) (c : ByteArray) : Bool := match getL xs c with | none => false | some a => a.post
theorem pickR_eq {xs : List Ac} : ∀ {s : List Cl}, pickR xs s = if (∀ x ∈ s, postB xs x.k.acc = true) then some (s.filter fun x => incB xs x.k.acc) else none
  | [] => by simp [pickR]
  | x :: r => by
    have ih := pickR_eq (xs := xs) (s := r)
    simp only [pickR]
    cases hg : getL xs x.k.acc with
    | none => rw [if_neg]; intro h; have := h x (by simp); unfold postB at this; rw [hg] at this; cases this
    | some a =>
      have hp : postB xs x.k.acc = a.post := by unfold postB; rw [hg]
      have hi : incB xs x.k.acc = decide (a.kind = 4 ∨ a.kind = 5) := by unfold incB; rw [hg]
      simp only
      by_cases ha : a.post = true
      · rw [if_pos ha, ih]
        by_cases hr : ∀ x ∈ r, postB xs x.k.acc = true
        · rw [if_pos hr, if_pos (fun y hy => by rcases List.mem_cons.1 hy with rfl | hy; rw [hp, ha]; exact hr y hy)]
          simp only [Option.map_some, List.filter_cons, hi, decide_eq_true_eq]
        · rw [if_neg hr, if_neg (fun h => hr fun y hy => h y (List.mem_cons_of_mem _ hy))]; rfl
      · rw [if_neg ha, if_neg]; intro h; have := h x (by simp); rw [hp] at this; exact ha this
end Go.SL

namespace Go.SL
open Go
structure ResOk (xs : List Ac) (first : Int) (l : List En) (ent : ByteArray) (year book : Int) (s all : List Cl) : Prop where
  cal : 1 ≤ first ∧ first ≤ 12
  yr : yearB first year = true
  err : errL l = 0
  play : sheetL (cellsL ⟨ent, 0, lastF first year, book⟩ l) = some all
  pick : pickR xs all = some s
section
variable {xs : List Ac} {first : Int} {l : List En} {ent : ByteArray} {year book : Int} {s all : List Cl}
theorem ResOk.rep (h : ResOk xs first l ent year book s all) : replayL l ⟨ent, 0, lastF first year, book⟩ = (all, 0) := by unfold replayL; rw [if_pos h.err, h.play]
theorem ResOk.res (h : ResOk xs first l ent year book s all) : resM xs first l ent year book = (s, 0) := by
  have hr := h.rep
  rw [res_pickS h.cal h.yr (by rw [hr]) (by rw [hr]; exact h.pick)]
theorem ResOk.is (h : ResOk xs first l ent year book s all) : IsSheet all ∧ ∀ k, getA all k = getA (cellsL ⟨ent, 0, lastF first year, book⟩ l) k ∧ getB all k = getB (cellsL ⟨ent, 0, lastF first year, book⟩ l) k := sheet_is h.play
theorem ResOk.sel (h : ResOk xs first l ent year book s all) : (∀ x ∈ all, postB xs x.k.acc = true) ∧ s = all.filter fun x => incB xs x.k.acc := by
  have hp := h.pick
  rw [pickR_eq] at hp
  split at hp
  · rename_i hh; simp only [Option.some.injEq] at hp; exact ⟨hh, hp.symm⟩
  · cases hp
end
end Go.SL

namespace Go.SL
open Go
section
variable {xs : List Ac} {first : Int} {l : List En} {ent : ByteArray} {year book : Int} {to who : ByteArray} {s all : List Cl}
structure EntOk (xs : List Ac) (first : Int) (l : List En) (ent : ByteArray) (year book : Int) (to who : ByteArray) (s all : List Cl) (a : Ac) : Prop where
  res : ResOk xs first l ent year book s all
  get : getL xs to = some a
  post : a.post = true
  kind : a.kind = 3
  some : ¬ s = []
  chk : (chkN (enMk ent who book (lastF first year) (transL s to))).2 = 0
theorem EntOk.val {a : Ac} (h : EntOk xs first l ent year book to who s all a) : entM xs first l ent year book to who = (enMk ent who book (lastF first year) (transL s to), 0) := by
  unfold entM
  rw [h.res.res, if_pos rfl, h.get]
  simp only [h.post, h.kind]
  rw [if_neg (by simp), if_neg h.some]
  simp only [h.chk]; rfl
theorem chk_bal {e : En} (h : (chkN e).2 = 0) : headE e = 0 ∧ balB e.lines = true := by
  unfold chkN at h
  split at h
  · rename_i h0
    refine ⟨h0, ?_⟩
    cases hl : linesE 0 e.lines with
    | some q => rw [hl] at h; exact absurd h (linesE_some hl)
    | none =>
      rw [hl] at h
      simp only at h
      split at h
      · assumption
      · cases h
  · rename_i h0; exact absurd h h0
theorem head_ent {e : En} (h : headE e = 0) : codeB e.ent = true ∧ codeB e.who = true := by
  unfold headE at h
  split at h; · cases h
  split at h; · cases h
  rename_i h2
  simpa using h2
end
def totL (l : List En) : Nat := (l.map fun e => e.lines.length).sum
end Go.SL

namespace Go.SL
open Go
section
variable {xs : List Ac} {first : Int} {l : List En} {ent : ByteArray} {year book : Int} {to who : ByteArray} {s all : List Cl} {a : Ac}
theorem EntOk.ne (h : EntOk xs first l ent year book to who s all a) : ¬ ent = bs0 := fun e => by
  have := (head_ent (chk_bal h.chk).1).1
  exact code_ne this e
end
end Go.SL

namespace Go.SL
open Go
abbrev sEUR : ByteArray := ⟨#[69, 85, 82]⟩
abbrev sa : ByteArray := ⟨#[97]⟩
abbrev su : ByteArray := ⟨#[117]⟩
end Go.SL

namespace Go.SL
open Go
structure Cs where
  xa : Option Addr
  xc : Nat
  xs : List Ac
  first : Int
  la : Option Addr
  lc : Nat
  l : List En
  ent : ByteArray
  year : Int
  book : Int
  to : ByteArray
  who : ByteArray
def Cs.c (x : Cs) : List Value := [.slice x.xa x.xs.length x.xc, I x.first, .slice x.la x.l.length x.lc, St x.ent, I x.year, I x.book, St x.to, St x.who]
abbrev szS (s : ByteArray) : Prop := (s.size : Int) ≤ 9223372036854775807
structure Ac.sz (a : Ac) : Prop where
  code : szS a.code
  parent : szS a.parent
  cur : szS a.cur
  need : ∀ n ∈ a.need, szS n
structure Ln.sz (l : Ln) : Prop where
  acc : szS l.acc
  cur : szS l.cur
  partner : szS l.partner
  party : szS l.party
  tags : ∀ t ∈ l.tags, szS t.name ∧ szS t.value
  tl : l.tags.length ≤ 140737488355328
structure En.sz (e : En) : Prop where
  ent : szS e.ent
  ref : szS e.ref
  who : szS e.who
  lines : ∀ l ∈ e.lines, l.sz
structure Cs.rd (R : HP) (x : Cs) : Prop where
  xr : RdS R x.xa (x.xs.flatMap Ac.c)
  xe : ∀ a ∈ x.xs, a.rd R ∧ a.sz
  xl : x.xs.length ≤ 140737488355328
  lr : RdS R x.la (x.l.flatMap En.c)
  le : ∀ e ∈ x.l, e.rd R ∧ e.lines.length ≤ 140737488355328
  ls : ∀ e ∈ x.l, e.sz
  ll : x.l.length ≤ 140737488355328
  iy : i64 x.year
  ib : i64 x.book
  zw : szS x.ent ∧ szS x.to ∧ szS x.who
structure Cs.few (x : Cs) : Prop where
  xs : x.xs.length ≤ 60
  l : x.l.length ≤ 40
  tot : totL x.l ≤ 400
section
variable {T U : TypeId} {b1 b2 b3 b4 : Nat} {R : HP}
abbrev bpt (b : Nat) : Option Addr := some ⟨b, 0, none⟩
end
end Go.SL

namespace Go.SL
open Go
section
variable {P : Program} {f : FuncId} {args : Array Value} {γ : Type} {ψ : γ → Prop} {R' : γ → Value} {Cs : γ → List HP} {L : List HP}
theorem AC.addF {v : Value} (hc : AC P f args (stars []) (Ret v [])) (z : γ) (hz : ψ z) (hv : v = R' z) (hi : Imp L (Cs z)) : AC P f args (stars L) (Outs ψ R' Cs) := fun w hp hA hs => by
  have hS : Sat ⟨w, hp⟩ L w := Has.self hA hs
  refine (hc.frame (F := stars L) (Has.mono hS fun h hh => ⟨fun _ => none, h, fun b => .inl rfl, by funext b; simp [Hp.add], fun _ => rfl, hh⟩)).mono ?_
  rintro e w' ⟨r, rfl, ⟨hq, ⟨q1, q2, qd, rfl, ⟨hr, hB⟩, hF⟩, hsub, hown⟩, hrest⟩
  have hS2 : Sat _ L w' := ⟨⟨_, (by rw [Hp.add_none hB]; exact hF), hsub, hown⟩, hrest⟩
  exact ⟨r, rfl, (hi _ _ hS2).mono fun _ h => ⟨z, ⟨hz, hr.trans hv⟩, h⟩⟩
theorem AC.pre {A A' : HP} {Q : Value → HP} (h : AC P f args A Q) (ha : ∀ h, A' h → A h) : AC P f args A' Q := AC.mono h ha fun _ _ => id
theorem Imp.pack0 {As Rs : List HP} : Imp (As ++ Rs) (stars As :: Rs) := fun β w hs => Has.mono hs fun _ h => stars_un h
end
theorem Imp.bigNil' {α : Type} (f : α → HP) {L : List HP} : Imp L (big f [] :: L) := fun β w hs => Has.mono hs emp_big
def chH (C S : TypeId) : Option Chv → HP
  | none => emp
  | some y => stars [pt y.b (blk [.map (some y.bm), y.v, y.w] C), amap y.bm acF acG y.m, big (ndH S) y.m]
def chV (o : Option Chv) : Value := .pointer (o.map fun y => ⟨y.b, 0, none⟩)
def ChOk (o : Option Chv) (xs : List Ac) : Prop := (∀ c, o = some c → c.m.map Ac.st = xs.map Ac.st) ∧ (o.isSome = true → chartB xs = true)
theorem ChOk.need {y : Chv} {xs : List Ac} (h : ChOk (some y) xs) : ∀ a ∈ y.m, a.need.length ≤ 6 := chart_need (h.1 y rfl) (h.2 rfl)
section
variable {P : Program} {β : Base} {n : Nat} {arr : Array Oper} {os : List Oper} {E : Env} {L L' : List HP} {K : Env → List HP → Prop}
end
theorem En.rd_in {A R : HP} {e : En} (h : e.rd R) : e.rd (stars [A, R]) := ⟨RdS.inr (RdS.inl h.1), fun l hl => ⟨RdS.inr (RdS.inl (h.2 l hl).1), (h.2 l hl).2⟩⟩
theorem rd_in0 {A R : HP} (h : Rd R ⟨0, 0, none⟩ lensC) : Rd (stars [A, R]) ⟨0, 0, none⟩ lensC := (RdS.inr (RdS.inl (Rd.rds h))).rd (by simp [lensC, lensL])
theorem rd_in1 {A R : HP} {m0 : Int} (h : Rd R ⟨1, 0, none⟩ [I m0]) : Rd (stars [A, R]) ⟨1, 0, none⟩ [I m0] := (RdS.inr (RdS.inl (Rd.rds h))).rd (by simp)
end Go.SL

namespace Go.SL
open Go
section
variable {xs : List Ac} {first : Int} {l : List En} {ent : ByteArray} {year book : Int} {to who : ByteArray} {s all : List Cl} {a : Ac} {ls : List Ln}
end
end Go.SL

namespace Go.SL
open Go
end Go.SL

namespace Go.SL
open Go
theorem cmpL_skip {a b : List ByteArray} {i : Nat} {x y : ByteArray} (h : cmpL a b = cmpL (a.drop i) (b.drop i)) (hx : a[i]? = some x) (hy : b[i]? = some y) : cmpL a b = if cmpS x y = 0 then cmpL (a.drop (i + 1)) (b.drop (i + 1)) else cmpS x y := by
  rw [h, drop_at hx, drop_at hy, cmpL]
theorem cmpL_done {a b : List ByteArray} {i : Nat} (h : cmpL a b = cmpL (a.drop i) (b.drop i)) (hi : a.length ≤ i) : cmpL a b = 0 := by
  rw [h, List.drop_eq_nil_of_le hi]; simp [cmpL]
theorem cmp_lt {a b : ByteArray} (h : blt a b = true) : cmpS a b = -1 := by
  unfold cmpS
  rw [if_neg (fun e => by subst e; rw [blt_irrefl] at h; cases h), if_pos h]
theorem cmp_gt {a b : ByteArray} (h : blt b a = true) : cmpS a b = 1 := by
  unfold cmpS
  rw [if_neg (fun e => by subst e; rw [blt_irrefl] at h; cases h), if_neg (by rw [blt_asymm h]; simp)]
theorem cmp_zero {a b : ByteArray} (h1 : blt a b = false) (h2 : blt b a = false) : cmpS a b = 0 := by
  unfold cmpS
  by_cases e : a = b
  · rw [if_pos e]
  · rcases blt_total e with h | h
    · rw [h] at h1; cases h1
    · rw [h] at h2; cases h2
def OfI (l : List Cl) (ks : List Ky) (i : Nat) (acc : List Cl) : Prop := ofK l ks = (ofK l (ks.drop i)).map (acc ++ ·) ∧ acc.length ≤ i
theorem OfI.start {l : List Cl} {ks : List Ky} : OfI l ks 0 [] := ⟨by simp, Nat.le_refl _⟩
theorem OfI.bad {l : List Cl} {ks : List Ky} {i : Nat} {acc : List Cl} {k : Ky} (h : OfI l ks i acc) (hk : ks[i]? = some k) (hb : ¬ (withinB (getA l k) = true ∧ withinB (getB l k) = true)) : ofK l ks = none := by
  rw [h.1, drop_at hk, ofK_cons, if_neg (show ¬ (withinB (sumA (byK k l)) = true ∧ withinB (sumB (byK k l)) = true) from hb)]; rfl
theorem OfI.step {l : List Cl} {ks : List Ky} {i : Nat} {acc : List Cl} {k : Ky} (h : OfI l ks i acc) (hk : ks[i]? = some k) (hb : withinB (getA l k) = true ∧ withinB (getB l k) = true) :
    OfI l ks (i + 1) (if getA l k = 0 ∧ getB l k = 0 then acc else acc ++ [⟨k, getA l k, getB l k⟩]) := by
  refine ⟨?_, ?_⟩
  · rw [h.1, drop_at hk, ofK_cons, if_pos (show withinB (sumA (byK k l)) = true ∧ withinB (sumB (byK k l)) = true from hb), Option.map_map]
    congr 1; funext t
    show acc ++ (if getA l k = 0 ∧ getB l k = 0 then t else ⟨k, getA l k, getB l k⟩ :: t) = _
    split <;> simp
  · have := h.2
    split
    · omega
    · rw [List.length_append, List.length_singleton]; omega
theorem OfI.done {l : List Cl} {ks : List Ky} {i : Nat} {acc : List Cl} (h : OfI l ks i acc) (hi : ks.length ≤ i) : ofK l ks = some acc := by
  rw [h.1, List.drop_eq_nil_of_le hi, ofK]; simp
theorem bal_cur {ls : List Ln} : balB ls = true ↔ ∀ c ∈ sortS (ls.map Ln.cur), balC ls c = true := by
  unfold balB
  rw [List.all_eq_true]
  constructor
  · intro h c hc
    rw [sortS_mem] at hc
    obtain ⟨y, hy, rfl⟩ := List.mem_map.1 hc
    exact h y hy
  · intro h y hy
    exact h y.cur (by rw [sortS_mem]; exact List.mem_map_of_mem hy)
def balT (ls : List Ln) (cs : List ByteArray) (i : Nat) : Prop := ∀ j c, j < i → cs[j]? = some c → balC ls c = true
theorem balT.all {ls : List Ln} {i : Nat} (h : balT ls (sortS (ls.map Ln.cur)) i) (hi : (sortS (ls.map Ln.cur)).length ≤ i) : balB ls = true := bal_cur.2 fun c hc => by
  obtain ⟨j, hj, rfl⟩ := List.getElem_of_mem hc
  exact h j _ (Nat.lt_of_lt_of_le hj hi) (List.getElem?_eq_getElem hj)
end Go.SL

namespace Go.SL
open Go
section
variable {P : Program} {β : Base} {E : Env} {L : List HP} {d : Option Tmp} {ty : TypeId} {pos : String} {af : Array Edge} {g : Option (Nat × Bool)} {x y : Operand} {t t' : TypeId}
end
section
variable {P : Program} {β : Base} {n : Nat} {arr : Array Oper} {os : List Oper} {E : Env} {L M : List HP} {K : Env → List HP → Prop} {T : TypeId} {k m cap : Nat} {oa : Option Addr} {cs : List Value}
end
theorem key_dec (a b : Ky) : (decide (a.ent = b.ent) && (decide (a.acc = b.acc) && (decide (a.cur = b.cur) && (decide (a.partner = b.partner) && (decide (a.tags = b.tags) && true))))) = decide (a = b) := by
  cases a; cases b
  simp only [Ky.mk.injEq, Bool.and_true, Bool.decide_and]
end Go.SL

namespace Go.SL
open Go
theorem map_e_get {xs ys : List Ln} (h : xs.map Ln.e = ys.map Ln.e) {i : Nat} {x y : Ln} (hx : xs[i]? = some x) (hy : ys[i]? = some y) : x.e = y.e := by
  have h2 := congrArg (fun l => l[i]?) h
  simp only [List.getElem?_map, hx, hy, Option.map_some, Option.some.injEq] at h2
  exact h2
theorem map_e_len {xs ys : List Ln} (h : xs.map Ln.e = ys.map Ln.e) : xs.length = ys.length := by
  have h2 := congrArg List.length h
  simpa using h2
end Go.SL

namespace Go.SL
open Go
section
variable {P : Program} {β : Base} {E : Env} {L L' M M' : List HP} {K : Value → List HP → Prop} {d : Option Tmp} {ty : TypeId} {pos : String} {af : Array Edge} {g : Option (Nat × Bool)} {x y : Operand} {t t' : TypeId} {e : TypeId} {k i : Nat} {s : ByteArray}
theorem DetJ.sliceSLo {oh : Operand} (U : P.underlying t = some .string) (hx : E.ev x = some (.string s)) (hh : E.ev oh = some (.int .i64 (i : Int))) (hi : i ≤ s.size) : DetJ P β E L ⟨d, .slice t x (some oh) none none, ty, pos, af, g⟩ (.string (s.extract i s.size)) :=
  fun a w ha _ => by
    simp only [execOp, Option.map_none, Option.map_some, ha.ev hx, ha.ev hh, Instr.sliceAt, Instr.slice]
    simp [run_underlying U, Instr.sliceBounds, Instr.sliceBound, asIntOf, hi]
theorem DetJ.sliceSHi {oh : Operand} (U : P.underlying t = some .string) (hx : E.ev x = some (.string s)) (hh : E.ev oh = some (.int .i64 (i : Int))) (hi : i ≤ s.size) : DetJ P β E L ⟨d, .slice t x none (some oh) none, ty, pos, af, g⟩ (.string (s.extract 0 i)) :=
  fun a w ha _ => by
    simp only [execOp, Option.map_none, Option.map_some, ha.ev hx, ha.ev hh, Instr.sliceAt, Instr.slice]
    simp [run_underlying U, Instr.sliceBounds, Instr.sliceBound, asIntOf, hi]
theorem OpJ.sliceLoA {oa : Option Addr} {l c : Nat} {oh : Operand} (S : SI P t e k) (hx : E.ev x = some (.slice oa l c)) (hh : E.ev oh = some (.int .i64 (i : Int))) (hi : i ≤ l)
    (h : K (.slice (cutA k oa c i) (l - i) (c - i)) L) : OpJ P β E L ⟨d, .slice t x (some oh) none none, ty, pos, af, g⟩ K :=
  OpJ.same (fun a w ha _ => by
    simp only [execOp, Option.map_none, Option.map_some, ha.ev hx, ha.ev hh, Instr.sliceAt, Instr.slice]
    simp [run_underlying S.under, Instr.sliceBounds, Instr.sliceBound, asIntOf, hi, S.run_size, cutA]
    cases oa with
    | none => simp
    | some a => simp; split <;> rfl) h
end
end Go.SL

namespace Go.SL
open Go Go.Proofs Go.Shelf Go.Maps Go.WideElems Go.RowKit
abbrev R0 : Value → Option (DataW Unit × List MemPlace) := fun _ => some (.nil, [])
section
variable {P : Program} {k : TypeId} {α : Type} {kf : α → ByteArray} {gq : α → Value}
end
section
variable {P : Program} {f g : FuncId} {mt k : TypeId} {bm nb : Nat} {α : Type} {kf : α → ByteArray} {gq : α → Value} {xs : List α}
end
end Go.SL

namespace Go.SL
open Go
section
variable {P : Program}
theorem run_equalIn_struct {d : Nat} {t : TypeId} {ks : List Bk} {fs : Array Field} {xs ys : List Value} {r : Bool} (w : World) (hu : P.underlying t = some (.struct fs)) (hall : fs.toList.zipIdx.all (fun (f, i) => f.name != "_" && f.offset == i) = true) (hst : P.stoodInHeld t = false)
    (hm : fs.toList.mapM (fun f => (P.underlying f.type).bind Bk.of) = some ks) (he : eqCells ks xs ys = some r) : (Op.equalIn (d + 2) t (.agg ⟨xs⟩) (.agg ⟨ys⟩)).run P w = .ok r w := by
  obtain ⟨o, ho, hb⟩ := run_eq_fields (P := P) (d := d) (xs := ⟨xs⟩) (ys := ⟨ys⟩) w fs.toList 0 ks r hall hm (by simpa using he)
  unfold Op.equalIn
  simp only [Sem.run_bind, run_underlying hu, Result.andThen_ok, run_program, hst]
  rw [← Array.forIn_toList]
  simp only [Bool.false_eq_true, if_false, Sem.run_bind, ho, Result.andThen_ok]
  rcases o with ⟨_ | b, u⟩
  · simp only at hb; subst hb; rfl
  · simp only at hb; subst hb; rfl
def EqF (P : Program) (d : Nat) (w : World) (xs : Array Value) (f : Field) : Prop := f.name ≠ "_" ∧ ∃ v, (part f.type xs f.offset).run P w = .ok v w ∧ (Op.equalIn d f.type v v).run P w = .ok true w
theorem run_eqF {d : Nat} {xs : Array Value} (w : World) : ∀ (fs : List Field), (∀ f ∈ fs, EqF P d w xs f) →
    (forIn fs ((none, ()) : Option Bool × Unit) fun f _ => (do
      if f.name ≠ "_" then
        if !(← Op.equalIn d f.type (← part f.type xs f.offset) (← part f.type xs f.offset)) then pure (ForInStep.done (some false, ())) else pure (ForInStep.yield (none, ()))
      else pure (ForInStep.yield (none, ())) : Sem (ForInStep (Option Bool × Unit)))).run P w = .ok (none, ()) w
  | [], _ => rfl
  | f :: fs, h => by
    obtain ⟨hn, v, h1, h2⟩ := h f (by simp)
    have ih := run_eqF (d := d) (xs := xs) w fs fun g hg => h g (by simp [hg])
    rw [List.forIn_cons]
    simp only [Sem.run_bind, hn, ne_eq, not_false_eq_true, if_true, h1, h2, Result.andThen_ok, Bool.not_true, Bool.false_eq_true, if_false, Sem.run_pure]
    exact ih
theorem run_equal_self {t : TypeId} {fs : Array Field} {xs : List Value} (w : World) (hu : P.underlying t = some (.struct fs)) (hst : P.stoodInHeld t = false) (h : ∀ f ∈ fs.toList, EqF P 9999 w ⟨xs⟩ f) : (Op.equal t (.agg ⟨xs⟩) (.agg ⟨xs⟩)).run P w = .ok true w := by
  have ho := run_eqF (P := P) (d := 9999) (xs := ⟨xs⟩) w fs.toList h
  unfold Op.equal Op.maxDepth
  unfold Op.equalIn
  simp only [Sem.run_bind, run_underlying hu, Result.andThen_ok, run_program, hst]
  rw [← Array.forIn_toList]
  simp only [Bool.false_eq_true, if_false, Sem.run_bind, ho, Result.andThen_ok]
  rfl
theorem run_part_agg {t : TypeId} {cs : Array Value} {off n : Nat} {fs : Array Field} (w : World) (hu : P.underlying t = some (.struct fs)) (hs : (P.info? t).map (·.size) = some n) : (part t cs off).run P w = .ok (.agg (cs.extract off (off + n))) w := by
  have hsz : (sizeOf t).run P w = .ok n w := by
    cases hi : P.info? t with
    | none => simp [hi] at hs
    | some i => simp only [hi, Option.map_some, Option.some.injEq] at hs; simp [sizeOf, typeInfo, hi, hs]
  unfold part isAgg
  simp only [Sem.run_bind, run_underlying hu, Result.andThen_ok, Sem.run_pure, if_true, hsz]
end
class CEq (P : Program) (t : TypeId) : Prop where
  run : ∀ (w : World) (x : Cl), (Op.equal t (.agg ⟨x.c⟩) (.agg ⟨x.c⟩)).run P w = .ok true w
  guard : P.eqGuardType P.depth t = false
theorem CEq.of {P : Program} {t k i : TypeId} {ks : Array Field} {f0 f1 f2 : Field} (hu : P.underlying t = some (.struct #[f0, f1, f2])) (hst : P.stoodInHeld t = false) (hg : P.eqGuardType P.depth t = false)
    (h0 : f0.name ≠ "_" ∧ f0.type = k ∧ f0.offset = 0) (h1 : f1.name ≠ "_" ∧ f1.type = i ∧ f1.offset = 5) (h2 : f2.name ≠ "_" ∧ f2.type = i ∧ f2.offset = 6)
    (hk : P.underlying k = some (.struct ks)) (hs : (P.info? k).map (·.size) = some 5) (hall : ks.toList.zipIdx.all (fun (f, i) => f.name != "_" && f.offset == i) = true) (hst2 : P.stoodInHeld k = false) (hm : ks.toList.mapM (fun f => (P.underlying f.type).bind Bk.of) = some [.str, .str, .str, .str, .str])
    (hi : (P.underlying i).bind Bk.of = some .int) : CEq P t := by
  refine ⟨fun w x => run_equal_self w hu hst fun f hf => ?_, hg⟩
  simp only [List.mem_cons, List.not_mem_nil, or_false] at hf
  rcases hf with rfl | rfl | rfl
  · obtain ⟨hn, ht, ho⟩ := h0
    refine ⟨hn, .agg ⟨x.k.c⟩, ?_, ?_⟩
    · rw [ht, ho, run_part_agg w hk hs]; rfl
    · rw [ht]; exact run_equalIn_struct (d := 9997) w hk hall hst2 hm (by simp [Ky.c, eqCells, eqCell])
  · obtain ⟨hn, ht, ho⟩ := h1
    refine ⟨hn, I x.amt, ?_, ?_⟩
    · rw [ht, ho]; exact run_part_one w hi rfl
    · rw [ht]; exact run_equalIn_cell (d := 9998) w hi (by simp [eqCell])
  · obtain ⟨hn, ht, ho⟩ := h2
    refine ⟨hn, I x.base, ?_, ?_⟩
    · rw [ht, ho]; exact run_part_one w hi rfl
    · rw [ht]; exact run_equalIn_cell (d := 9998) w hi (by simp [eqCell])
section
variable {P : Program} {β : Base} {E : Env} {L L' M : List HP} {K : Value → List HP → Prop} {d : Option Tmp} {ty : TypeId} {pos : String} {af : Array Edge} {g : Option (Nat × Bool)} {x y : Operand} {t t' : TypeId}
end
end Go.SL

namespace Go.SL
open Go
section
variable {P : Program} {β : Base} {E : Env} {L L' M : List HP} {K : Value → List HP → Prop} {d : Option Tmp} {ty : TypeId} {pos : String} {af : Array Edge} {g : Option (Nat × Bool)} {x y : Operand} {t tn e : TypeId}
theorem OpJ.capS {e : TypeId} {n l c : Nat} {oa : Option Addr} (S : SI P t e n) (hx : E.ev x = some (.slice oa l c)) (h : K (.int .i64 (c : Int)) L) : OpJ P β E L ⟨d, .call ⟨.builtin .cap, #[x], #[t]⟩, ty, pos, af, g⟩ K :=
  OpJ.same (fun a w ha _ => by simp [execOp, resolve, invoke, builtin, Builtin.cap_, ha.ev hx, run_underlying S.under, goInt]) h
end
end Go.SL

namespace Go.SL
open Go
structure Rt where
  cur : ByteArray
  kind : Int
  day : Int
  n : Int
  d : Int
deriving DecidableEq
def Rt.c (r : Rt) : List Value := [St r.cur, I r.kind, I r.day, I r.n, I r.d]
theorem rt1 (r : Rt) : ∀ v ∈ r.c, v.oneCell' = true := fun v hv => by simp [Rt.c] at hv; rcases hv with rfl | rfl | rfl | rfl | rfl <;> rfl
def frB (n d : Int) : Bool := decide ((1 ≤ d ∧ d ≤ 1000000) ∧ (-1000000 ≤ n ∧ n ≤ 1000000) ∧ Int.gcd n d = 1)
structure GcI (a0 b0 a b : Int) : Prop where
  g : Int.gcd a b = Int.gcd a0 b0
  a0 : 0 ≤ a
  b0 : 0 ≤ b
theorem GcI.start {a b : Int} (ha : 0 ≤ a) (hb : 0 ≤ b) : GcI a b a b := ⟨rfl, ha, hb⟩
theorem GcI.step {a0 b0 a b : Int} (h : GcI a0 b0 a b) (hb : ¬ b = 0) : GcI a0 b0 b (a % b) ∧ a % b < b := by
  have hb2 := h.b0
  refine ⟨⟨?_, hb2, Int.emod_nonneg _ hb⟩, Int.emod_lt_of_pos _ (by omega)⟩
  rw [← h.g, Int.gcd_comm a b]
  obtain ⟨x, rfl⟩ := Int.eq_ofNat_of_zero_le h.a0
  obtain ⟨y, rfl⟩ := Int.eq_ofNat_of_zero_le hb2
  show Nat.gcd y (x % y) = Nat.gcd y x
  rw [Nat.gcd_comm y (x % y), ← Nat.gcd_rec]
theorem GcI.done {a0 b0 a b : Int} (h : GcI a0 b0 a b) (hb : b = 0) : a = Int.gcd a0 b0 := by
  subst hb
  have h1 := h.g
  have h2 := h.a0
  rw [Int.gcd_zero_right] at h1
  omega
def rtE (base : ByteArray) (r : Rt) : Int :=
  if (!curB r.cur || decide (r.cur = base)) = true then 13 else if r.kind < 1 ∨ 3 < r.kind then 10 else if inB r.day 0 109572 = false then 11 else if (!frB r.n r.d || decide (r.n ≤ 0)) = true then 2 else 0
abbrev Rt.pl (r s : Rt) : Prop := r.cur = s.cur ∧ r.kind = s.kind ∧ r.day = s.day
def newR (p : List Rt) (r : Rt) : Bool := p.all fun s => !decide (s.pl r)
def fxG (base : ByteArray) (p : List Rt) : List Rt → Bool
  | [] => true
  | r :: t => decide (rtE base r = 0) && newR p r && fxG base (p ++ [r]) t
def fxB (base : ByteArray) (l : List Rt) : Bool := curB base && decide (l.length ≤ 2000) && fxG base [] l
theorem fxG_at {base : ByteArray} : ∀ {t p : List Rt}, fxG base p t = true ↔ ∀ (i : Nat) r, t[i]? = some r → rtE base r = 0 ∧ newR (p ++ t.take i) r = true
  | [], p => by simp [fxG]
  | x :: t, p => by
    simp only [fxG, Bool.and_eq_true, decide_eq_true_eq, fxG_at (t := t)]
    constructor
    · rintro ⟨⟨h1, h2⟩, h3⟩ i r hr
      cases i with
      | zero => simp at hr; subst hr; simp; exact ⟨h1, h2⟩
      | succ i =>
        have := h3 i r (by simpa using hr)
        simpa using this
    · intro h
      refine ⟨?_, fun i r hr => ?_⟩
      · have := h 0 x rfl; simpa using this
      · have := h (i + 1) r (by simpa using hr); simpa using this
def FxI (base : ByteArray) (l : List Rt) (i : Nat) : Prop := ∀ (j : Nat) r, j < i → l[j]? = some r → rtE base r = 0 ∧ newR (l.take j) r = true
theorem FxI.start {base : ByteArray} {l : List Rt} : FxI base l 0 := fun j r h => by omega
theorem FxI.step {base : ByteArray} {l : List Rt} {i : Nat} {r : Rt} (h : FxI base l i) (hr : l[i]? = some r) (h1 : rtE base r = 0) (h2 : newR (l.take i) r = true) : FxI base l (i + 1) := fun j s hj hs => by
  by_cases e : j = i
  · subst e; rw [hr] at hs; cases hs; exact ⟨h1, h2⟩
  · exact h j s (by omega) hs
theorem FxI.done {base : ByteArray} {l : List Rt} {i : Nat} (h : FxI base l i) (hi : l.length ≤ i) : fxG base [] l = true := fxG_at.2 fun j r hr => by
  have := h j r (by have := (List.getElem?_eq_some_iff.1 hr).1; omega) hr
  simpa using this
theorem fx_bad {base : ByteArray} {l : List Rt} {i : Nat} {r : Rt} (hr : l[i]? = some r) (h : ¬ (rtE base r = 0 ∧ newR (l.take i) r = true)) : fxG base [] l = false := by
  cases hh : fxG base [] l with
  | false => rfl
  | true => exact absurd (by have := fxG_at.1 hh i r hr; simpa using this) h
def insR (r : Rt) : List Rt → List Rt
  | [] => [r]
  | x :: t => if x.day < r.day then x :: insR r t else r :: x :: t
def sel (c : ByteArray) (k : Int) (l : List Rt) : List Rt := l.filter fun r => decide (r.cur = c ∧ r.kind = k)
def serL (l : List Rt) (c : ByteArray) (k : Int) : List Rt := (sel c k l).foldl (fun t r => insR r t) []
theorem insR_mem {r y : Rt} : ∀ {t : List Rt}, y ∈ insR r t ↔ y = r ∨ y ∈ t
  | [] => by simp [insR]
  | x :: t => by
    simp only [insR]
    split
    · simp only [List.mem_cons, insR_mem (t := t)]
      constructor
      · rintro (h | h | h) <;> simp [h]
      · rintro (h | h | h) <;> simp [h]
    · simp
theorem insR_len {r : Rt} : ∀ {t : List Rt}, (insR r t).length = t.length + 1
  | [] => rfl
  | x :: t => by simp only [insR]; split <;> simp [insR_len (t := t)]
abbrev ltD (a b : Rt) : Prop := a.day < b.day
theorem insR_pair {r : Rt} : ∀ {t : List Rt}, t.Pairwise ltD → (∀ x ∈ t, x.day ≠ r.day) → (insR r t).Pairwise ltD
  | [], _, _ => by simp [insR]
  | x :: t, h, hn => by
    rw [List.pairwise_cons] at h
    have hx := hn x (by simp)
    simp only [insR]
    split
    · rename_i hl
      refine List.Pairwise.cons (fun y hy => ?_) (insR_pair h.2 fun y hy => hn y (by simp [hy]))
      rcases insR_mem.1 hy with rfl | hy
      · exact hl
      · exact h.1 y hy
    · rename_i hl
      refine List.Pairwise.cons (fun y hy => ?_) (List.Pairwise.cons h.1 h.2)
      rcases List.mem_cons.1 hy with rfl | hy
      · show r.day < y.day; omega
      · have := h.1 y hy; show r.day < y.day; have h3 : x.day < y.day := this; omega
theorem insR_at {r : Rt} : ∀ {t : List Rt} {k : Nat}, k ≤ t.length → (∀ (j : Nat) y, j < k → t[j]? = some y → y.day < r.day) → (∀ y, t[k]? = some y → ¬ y.day < r.day) → insR r t = t.take k ++ r :: t.drop k
  | [], k, hk, _, _ => by
    obtain rfl : k = 0 := by simpa using hk
    rfl
  | x :: t, 0, _, _, h => by
    have := h x rfl
    simp only [insR]; rw [if_neg this]; rfl
  | x :: t, k + 1, hk, hl, h => by
    have hx := hl 0 x (by omega) rfl
    simp only [insR]
    rw [if_pos hx, insR_at (r := r) (t := t) (k := k) (by simpa using hk) (fun j y hj hy => hl (j + 1) y (by omega) (by simpa using hy)) (fun y hy => h y (by simpa using hy))]; rfl
theorem sel_app {c : ByteArray} {k : Int} {a b : List Rt} : sel c k (a ++ b) = sel c k a ++ sel c k b := List.filter_append ..
theorem ser_step {l : List Rt} {c : ByteArray} {k : Int} {r : Rt} : serL (l ++ [r]) c k = if r.cur = c ∧ r.kind = k then insR r (serL l c k) else serL l c k := by
  unfold serL
  rw [sel_app, List.foldl_append]
  by_cases h : r.cur = c ∧ r.kind = k <;> simp [sel, h]
theorem ser_fold_mem {y : Rt} : ∀ {l t : List Rt}, y ∈ l.foldl (fun t r => insR r t) t ↔ y ∈ t ∨ y ∈ l
  | [], t => by simp
  | x :: l, t => by
    rw [List.foldl_cons, ser_fold_mem, insR_mem, List.mem_cons]
    constructor
    · rintro ((h | h) | h) <;> simp [h]
    · rintro (h | h | h) <;> simp [h]
theorem ser_mem {l : List Rt} {c : ByteArray} {k : Int} {y : Rt} : y ∈ serL l c k ↔ y ∈ l ∧ y.cur = c ∧ y.kind = k := by
  unfold serL sel; rw [ser_fold_mem, List.mem_filter, decide_eq_true_eq]; simp
theorem new_day {p : List Rt} {r : Rt} (h : newR p r = true) : ∀ x ∈ serL p r.cur r.kind, x.day ≠ r.day := fun x hx e => by
  obtain ⟨hm, h1, h2⟩ := ser_mem.1 hx
  unfold newR at h
  rw [List.all_eq_true] at h
  have := h x hm
  simp only [Bool.not_eq_true', decide_eq_false_iff_not] at this
  exact this ⟨h1, h2, e⟩
theorem ser_pair {base : ByteArray} {l : List Rt} (c : ByteArray) (k : Int) : ∀ {i : Nat}, FxI base l i → i ≤ l.length → (serL (l.take i) c k).Pairwise ltD
  | 0, _, _ => by simp [serL, sel]
  | i + 1, h, hi => by
    have ih := ser_pair (base := base) (l := l) c k (i := i) (fun j r hj hr => h j r (by omega) hr) (by omega)
    have hr : l[i]? = some l[i] := List.getElem?_eq_getElem (by omega)
    rw [List.take_add_one, hr]
    simp only [Option.toList_some]
    rw [ser_step]
    split
    · rename_i hk
      refine insR_pair ih fun x hx => ?_
      have := new_day (h i _ (by omega) hr).2 x (by rw [hk.1, hk.2]; exact hx)
      exact this
    · exact ih
def kindB (k : Int) : Bool := decide (1 ≤ k ∧ k ≤ 3)
def lastRq (day : Int) (t : List Rt) : Option Rt := (t.filter fun r => decide (r.day ≤ day)).getLast?
def findM (base : ByteArray) (l : List Rt) (c : ByteArray) (k day : Int) : Int × Int × Int :=
  if curB c = false then (0, 0, 13) else if kindB k = false then (0, 0, 10) else if inB day 0 109572 = false then (0, 0, 11) else if c = base then (1, 1, 0)
  else match lastRq day (serL l c k) with | none => (0, 0, 20) | some r => (r.n, r.d, 0)
def crossM (base : ByteArray) (l : List Rt) (from_ to : ByteArray) (k day : Int) : Int × Int × Int :=
  if (findM base l from_ k day).2.2 = 0 then
    if (findM base l to k day).2.2 = 0 then
      let n := (findM base l from_ k day).1 * (findM base l to k day).2.1
      let d := (findM base l from_ k day).2.1 * (findM base l to k day).1
      (n / (Int.gcd n d : Int), d / (Int.gcd n d : Int), 0)
    else (0, 0, (findM base l to k day).2.2)
  else (0, 0, (findM base l from_ k day).2.2)
def convM (base : ByteArray) (l : List Rt) (a : Int) (from_ to : ByteArray) (k day mode : Int) : Int × Int :=
  if mode < 1 ∨ 5 < mode then (0, 10)
  else if (crossM base l from_ to k day).2.2 = 0 then
    if largeB a = true then (0, 4)
    else if mdE a (crossM base l from_ to k day).1 (crossM base l from_ to k day).2.1 mode ≠ 0 ∨ largeB (mdN a (crossM base l from_ to k day).1 (crossM base l from_ to k day).2.1 mode) = true then (0, 4)
    else (mdN a (crossM base l from_ to k day).1 (crossM base l from_ to k day).2.1 mode, 0)
  else (0, (crossM base l from_ to k day).2.2)
end Go.SL

namespace Go.SL
open Go
section
variable {P : Program} {β : Base} {E : Env} {L L' M : List HP} {K : Value → List HP → Prop} {d : Option Tmp} {ty : TypeId} {pos : String} {af : Array Edge} {gd : Option (Nat × Bool)} {x y z : Operand} {t kt et : TypeId} {b : Nat} {α κ : Type} [DecidableEq κ] {enc : κ → Value} {k : κ} {kf : α → κ} {g : α → Value} {xs : List α}
theorem OpJ.lookup1A {zv : Value} (KA : KeyAgg P kt enc) (Mp : MPI P t kt et) (Z : ZVI P et zv) (hx : E.ev x = some (.map (some b))) (hy : E.ev y = some (enc k)) (p : Pick L (amap b (fun x => enc (kf x)) g xs) M)
    (h : K (match kAt kf k xs with | some q => g q.2 | none => zv) L) : OpJ P β E L ⟨d, .lookup t x y false, ty, pos, af, gd⟩ K :=
  OpJ.same (fun a w ha hs => by
    have hb := hs.heap p
    have hf := run_findKeyA (g := g) (kf := kf) (k := k) KA w xs
    simp only [execOp, ha.ev hx, ha.ev hy, Instr.lookup, Sem.run_bind, Sem.run_pure, run_underlying Mp.eq, MapKept.run_getObj_map hb, KA.check, ents, hf, Result.andThen]
    cases hk : kAt kf k xs with
    | none => simp [hk, Z.run, Result.andThen]
    | some q => simp [hk, Result.andThen]) h
theorem OpJ.mapUpdateA (y0 : α) (KA : KeyAgg P kt enc) (Mp : MPI P t kt et) (hx : E.ev x = some (.map (some b))) (hy : E.ev y = some (enc (kf y0))) (hz : E.ev z = some (g y0))
    (u : Upd L (amap b (fun x => enc (kf x)) g xs) (amap b (fun x => enc (kf x)) g (kSet kf y0 xs)) L') (h : K undef L') : OpJ P β E L ⟨d, .mapUpdate t x y z, ty, pos, af, gd⟩ K :=
  OpJ.skips (fun a w ha hs => by
    obtain ⟨M', g1, g2⟩ := u.star
    have hs' : Has β (star (pt b (.map (ents (fun x => enc (kf x)) g xs) xs.length)) (stars M')) w := hs.mono g1
    have hb : w.heap[b]? = some (.map (ents (fun x => enc (kf x)) g xs) xs.length) := Sat.heap (L := _ :: M') hs' .here
    have hf := run_findKeyA (g := g) (kf := kf) (k := kf y0) KA w xs
    refine ⟨{ w with heap := w.heap.setIfInBounds b (.map (ents (fun x => enc (kf x)) g (kSet kf y0 xs)) (kSet kf y0 xs).length) }, ?_, Has.mono (Has.setObj (o' := .map (ents (fun x => enc (kf x)) g (kSet kf y0 xs)) (kSet kf y0 xs).length) hs' rfl rfl rfl rfl) g2⟩
    simp only [execOp, ha.ev hx, ha.ev hy, ha.ev hz, Instr.mapUpdate, Sem.run_bind, Sem.run_pure, run_underlying Mp.eq, MapKept.run_getObj_map hb, KA.check, ents, hf, Result.andThen, kSet]
    cases hk : kAt kf (kf y0) xs with
    | none =>
      simp only [Option.map_none, MapKept.run_setObj_map _ hb, entsF_app, Nat.zero_add, List.length_append, List.length_cons, List.length_nil, List.push_toArray]
    | some q =>
      obtain ⟨hq, hkq⟩ := kAt_some hk
      have hlt := (List.getElem?_eq_some_iff.1 hq).1
      have he : (entsF (fun x => enc (kf x)) g 0 xs)[q.1]? = some ⟨enc (kf y0), g q.2, q.1⟩ := by rw [entsF_get, hq]; simp [hkq]
      simp only [Option.map_some, Nat.zero_add, List.getElem?_toArray, he, Option.getD_some, Sem.run_bind, KA.stays, MapKept.run_setObj_map _ hb, Result.andThen, List.length_set]
      congr 4
      rw [entsF_set _ _ _ _ hlt]
      apply Array.toList_inj.1
      apply List.ext_getElem?
      intro j
      simp only [Array.getElem?_toList, Array.getElem?_modify, List.getElem?_set, List.getElem?_toArray]
      by_cases hj : q.1 = j
      · subst hj; have hb' := (List.getElem?_eq_some_iff.1 he).2; simp [he, entsF_len, hlt, hb']
      · simp [hj]) h
end
end Go.SL

namespace Go.SL
open Go
structure Sr where
  cur : ByteArray
  kind : Int
  a : Option Addr
  c : Nat
  l : List Rt
abbrev encS (k : ByteArray × Int) : Value := .agg ⟨[St k.1, I k.2]⟩
abbrev srK (x : Sr) : ByteArray × Int := (x.cur, x.kind)
abbrev srF (x : Sr) : Value := encS (srK x)
abbrev srG (x : Sr) : Value := .slice x.a x.l.length x.c
def srH (T : TypeId) (x : Sr) : HP := own T 5 x.a x.l.length x.c (x.l.flatMap Rt.c)
def srAt (m : List Sr) (c : ByteArray) (k : Int) : Sr := match kAt srK (c, k) m with | some q => q.2 | none => ⟨c, k, none, 0, []⟩
def srRest (T : TypeId) (m : List Sr) (c : ByteArray) (k : Int) : HP := match kAt srK (c, k) m with | some q => big (srH T) (m.eraseIdx q.1) | none => big (srH T) m
theorem sr_out {T : TypeId} {m : List Sr} {c : ByteArray} {k : Int} : ∀ h, big (srH T) m h → star (own T 5 (srAt m c k).a (srAt m c k).l.length (srAt m c k).c ((srAt m c k).l.flatMap Rt.c)) (srRest T m c k) h := fun h hb => by
  unfold srAt srRest
  cases hk : kAt srK (c, k) m with
  | none =>
    exact (⟨fun _ => none, h, fun b => .inl rfl, by funext b; simp [Hp.add], ⟨rfl, Nat.le_refl _, .inl ⟨rfl, fun _ => rfl⟩⟩, hb⟩ : star (own T 5 none 0 0 []) (big (srH T) m) h)
  | some q => exact big_out (f := srH T) (kAt_some (x := q.2) (i := q.1) hk).1 h hb
theorem sr_in {T : TypeId} {m : List Sr} {y : Sr} : ∀ h, star (own T 5 y.a y.l.length y.c (y.l.flatMap Rt.c)) (srRest T m y.cur y.kind) h → big (srH T) (kSet srK y m) h := fun h hb => by
  unfold kSet; unfold srRest at hb
  cases hk : kAt srK (srK y) m with
  | none => rw [show kAt srK (y.cur, y.kind) m = none from hk] at hb; exact big_app (f := srH T) h hb
  | some q =>
    rw [show kAt srK (y.cur, y.kind) m = some q from hk] at hb
    exact big_in (f := srH T) (List.getElem?_eq_some_iff.1 (kAt_some (x := q.2) (i := q.1) hk).1).1 h hb
theorem sr_at_set {m : List Sr} {y : Sr} {c : ByteArray} {k : Int} : (srAt (kSet srK y m) c k).l = if y.cur = c ∧ y.kind = k then y.l else (srAt m c k).l := by
  have h := kAt_kSet (kf := srK) (k := (c, k)) (y := y) (xs := m)
  unfold srAt
  by_cases e : y.cur = c ∧ y.kind = k
  · rw [if_pos (show srK y = (c, k) by rw [← e.1, ← e.2])] at h
    rw [if_pos e]
    cases hk : kAt srK (c, k) (kSet srK y m) with
    | none => rw [hk] at h; cases h
    | some q => rw [hk] at h; simp only [Option.map_some, Option.some.injEq] at h; simp only; rw [h]
  · rw [if_neg (show ¬ srK y = (c, k) from fun h2 => e (by simpa using h2))] at h
    rw [if_neg e]
    cases hk : kAt srK (c, k) (kSet srK y m) with
    | none =>
      rw [hk] at h
      cases hk2 : kAt srK (c, k) m with
      | none => rfl
      | some q => rw [hk2] at h; cases h
    | some q =>
      rw [hk] at h
      cases hk2 : kAt srK (c, k) m with
      | none => rw [hk2] at h; cases h
      | some q2 => rw [hk2] at h; simp only [Option.map_some, Option.some.injEq] at h; simp only; rw [h]
def TabI (m : List Sr) (p : List Rt) : Prop := ∀ c k, (srAt m c k).l = serL p c k
theorem TabI.start : TabI [] [] := fun c k => rfl
theorem TabI.step {m : List Sr} {p : List Rt} {r : Rt} (h : TabI m p) (a : Option Addr) (c : Nat) : TabI (kSet srK ⟨r.cur, r.kind, a, c, insR r (srAt m r.cur r.kind).l⟩ m) (p ++ [r]) := fun c' k' => by
  rw [sr_at_set, ser_step]
  by_cases e : r.cur = c' ∧ r.kind = k'
  · rw [if_pos e, if_pos e, ← e.1, ← e.2, h]
  · rw [if_neg e, if_neg e, h]
theorem ser_len {l : List Rt} {c : ByteArray} {k : Int} : (serL l c k).length ≤ l.length := by
  have key : ∀ (a t : List Rt), (a.foldl (fun t r => insR r t) t).length = t.length + a.length := fun a => by
    induction a with
    | nil => intro t; simp
    | cons x a ih => intro t; rw [List.foldl_cons, ih, insR_len, List.length_cons]; omega
  unfold serL
  rw [key]
  have h2 : (sel c k l).length ≤ l.length := List.length_filter_le ..
  rw [List.length_nil]; omega
structure Fxv where
  b : Nat
  bm : Nat
  base : ByteArray
  n : Int
  m : List Sr
def fxH (C S : TypeId) : Option Fxv → HP
  | none => emp
  | some y => stars [pt y.b (blk [St y.base, I y.n, .map (some y.bm)] C), amap y.bm srF srG y.m, big (srH S) y.m]
def fxV (o : Option Fxv) : Value := .pointer (o.map fun y => ⟨y.b, 0, none⟩)
def FxOk (o : Option Fxv) (base : ByteArray) (l : List Rt) : Prop := (∀ y, o = some y → y.base = base ∧ TabI y.m l) ∧ (o.isSome = true → fxB base l = true)
section
variable {P : Program} {β : Base} {n : Nat} {arr : Array Oper} {os : List Oper} {E : Env} {L L' M M' : List HP} {KK : Env → List HP → Prop} {T : TypeId} {m : List Sr}
theorem RunL.srOut (c : ByteArray) (k : Int) (hp : Pick L (big (srH T) m) M) (h : RunL P β n arr os E (own T 5 (srAt m c k).a (srAt m c k).l.length (srAt m c k).c ((srAt m c k).l.flatMap Rt.c) :: srRest T m c k :: M) KK) : RunL P β n arr os E L KK :=
  RunL.mapL (fun w hs => Has.mono hs (pick_map hp sr_out)) h
theorem RunL.srIn (T : TypeId) (m : List Sr) (y : Sr) (hp : Pick L (own T 5 y.a y.l.length y.c (y.l.flatMap Rt.c)) M) (hq : Pick M (srRest T m y.cur y.kind) M') (h : RunL P β n arr os E (big (srH T) (kSet srK y m) :: M') KK) : RunL P β n arr os E L KK :=
  RunL.mapL (fun w hs => Has.mono hs (pick_join hp hq sr_in)) h
end
section
variable {P : Program} {β : Base} {E : Env} {L M : List HP} {K : Value → List HP → Prop} {d : Option Tmp} {ty : TypeId} {pos : String} {af : Array Edge} {gd : Option (Nat × Bool)} {x y : Operand} {t kt et : TypeId} {b : Nat}
theorem OpJ.lookupSr {m : List Sr} {c : ByteArray} {k : Int} (KA : KeyAgg P kt encS) (Mp : MPI P t kt et) (Z : ZVI P et (.slice none 0 0)) (hx : E.ev x = some (.map (some b))) (hy : E.ev y = some (encS (c, k))) (p : Pick L (amap b srF srG m) M)
    (h : K (.slice (srAt m c k).a (srAt m c k).l.length (srAt m c k).c) L) : OpJ P β E L ⟨d, .lookup t x y false, ty, pos, af, gd⟩ K :=
  OpJ.lookup1A (kf := srK) (g := srG) KA Mp Z hx hy p (by unfold srAt at h; revert h; cases kAt srK (c, k) m <;> exact fun h => h)
end
theorem last_none {t : List Rt} {day : Int} (h : ∀ y ∈ t, ¬ y.day ≤ day) : lastRq day t = none := by
  unfold lastRq
  rw [List.filter_eq_nil_iff.2 (fun y hy => by simpa using h y hy)]; rfl
theorem last_max {t : List Rt} {day : Int} {r : Rt} (hp : t.Pairwise ltD) (hr : r ∈ t) (hd : r.day ≤ day) (hm : ∀ y ∈ t, y.day ≤ day → y.day ≤ r.day) : lastRq day t = some r := by
  unfold lastRq
  have hf : (t.filter fun r => decide (r.day ≤ day)).Pairwise ltD := hp.filter _
  have hrf : r ∈ t.filter fun r => decide (r.day ≤ day) := List.mem_filter.2 ⟨hr, by simpa using hd⟩
  have hmf : ∀ y ∈ t.filter (fun r => decide (r.day ≤ day)), y.day ≤ r.day := fun y hy => by
    obtain ⟨h1, h2⟩ := List.mem_filter.1 hy
    exact hm y h1 (by simpa using h2)
  generalize t.filter (fun r => decide (r.day ≤ day)) = f at hf hrf hmf
  have hne : f ≠ [] := fun e => by rw [e] at hrf; cases hrf
  rw [List.getLast?_eq_some_getLast hne]
  congr 1
  have hz := hmf _ (List.getLast_mem hne)
  have hsp := List.dropLast_concat_getLast hne
  rw [← hsp] at hrf hf
  rcases List.mem_append.1 hrf with h | h
  · have := (List.pairwise_append.1 hf).2.2 r h _ (List.mem_singleton.2 rfl)
    have h3 : r.day < (f.getLast hne).day := this
    omega
  · exact (List.mem_singleton.1 h).symm
theorem last_at {t : List Rt} {day : Int} {k : Nat} (hp : t.Pairwise ltD) (hl : ∀ (j : Nat) y, j < k → t[j]? = some y → y.day < day + 1) (hh : ∀ (j : Nat) y, k ≤ j → t[j]? = some y → ¬ y.day < day + 1) : (k = 0 → lastRq day t = none) ∧ (∀ r, 0 < k → t[k - 1]? = some r → lastRq day t = some r) := by
  constructor
  · rintro rfl
    refine last_none fun y hy h => ?_
    obtain ⟨j, hj, rfl⟩ := List.getElem_of_mem hy
    exact hh j _ (by omega) (List.getElem?_eq_getElem hj) (by omega)
  · intro r hk hr
    refine last_max hp (List.mem_of_getElem? hr) (by have := hl (k - 1) r (by omega) hr; omega) fun y hy hd => ?_
    obtain ⟨j, hj, rfl⟩ := List.getElem_of_mem hy
    by_cases hjk : k ≤ j
    · exact absurd (by omega) (hh j _ hjk (List.getElem?_eq_getElem hj))
    · by_cases e : j = k - 1
      · subst e
        rw [List.getElem?_eq_getElem hj] at hr; cases hr; exact Int.le_refl _
      · obtain ⟨hk1, rfl⟩ := List.getElem?_eq_some_iff.1 hr
        have h2 : t[j].day < t[k - 1].day := (List.pairwise_iff_getElem.1 hp) j (k - 1) hj hk1 (by omega)
        omega
end Go.SL

namespace Go.SL
open Go
section
variable {P : Program} {β : Base} {nn : Nat} {arr : Array Oper} {os : List Oper} {E : Env} {L M : List HP} {K : Env → List HP → Prop} {T : TypeId} {k n cap : Nat} {oa : Option Addr} {cs : List Value}
theorem RunL.ownOpen (p : Pick L (own T k oa n cap cs) M) (hc : 0 < cap) (h : ∀ b junk, oa = some ⟨b, 0, none⟩ → cs.length = n * k → n ≤ cap → cap * k ≤ (cs ++ junk).length → RunL P β nn arr os E (pt b (blk (cs ++ junk) T) :: M) K) : RunL P β nn arr os E L K := fun a w ha hs Q hQ => by
  obtain ⟨⟨hp, hlp, hr⟩, hq⟩ := hs
  obtain ⟨h1, h2, hd, he, hA, hM⟩ := p.star hlp
  obtain ⟨hl, hn, ho⟩ := hA
  rcases ho with ⟨h0, _⟩ | ⟨b, junk, e, hj, hpt⟩
  · omega
  · exact h b junk e hl hn (by rw [List.length_append]; exact hj) a w ha ⟨⟨hp, (⟨h1, h2, hd, he, hpt, hM⟩ : star (pt b (blk (cs ++ junk) T)) (stars M) hp), hr⟩, hq⟩ Q hQ
end
theorem own.close {T : TypeId} {k b n cap : Nat} {cs all : List Value} (hl : cs.length = n * k) (hn : n ≤ cap) (hc : cap * k ≤ all.length) (junk : List Value) (e : all = cs ++ junk) : ∀ h, pt b (blk all T) h → own T k (some ⟨b, 0, none⟩) n cap cs h := fun h hh => by
  subst e
  exact ⟨hl, hn, .inr ⟨b, junk, rfl, by rw [List.length_append] at hc; exact hc, hh⟩⟩
section
variable {P : Program} {β : Base} {E : Env} {L L' M M' : List HP} {K : Value → List HP → Prop} {d : Option Tmp} {ty : TypeId} {pos : String} {af : Array Edge} {g : Option (Nat × Bool)} {x y : Operand} {t tn e : TypeId} {k : Nat}
theorem OpJ.appendZo {bytes n cap z : Nat} {zs olds : List Value} {oa : Option Addr} {R : HP} (S : SI P t e k) (I : MI P e k bytes zs) (hk : 0 < k) (htn : P.underlying tn = some (.int .i64)) (hx : E.ev x = some (.slice oa n cap)) (hy : E.ev y = some (.int .i64 (z : Int))) (hz0 : 0 < z) (hg : cap < n + z) (hb : (n + z) * bytes ≤ 140737488355328) (h63 : n + z ≤ 9223372036854775807)
    (p : Pick L R M) (hr : RdS R oa olds) (hl : olds.length = n * k)
    (h : ∀ b c junk, n + z ≤ c → c * k ≤ (olds ++ junk).length → K (.slice (some ⟨b, 0, none⟩) (n + z) c) (pt b (blk (olds ++ junk) e) :: L)) : OpJ P β E L ⟨d, .call ⟨.builtin .append, #[x, y], #[t, tn]⟩, ty, pos, af, g⟩ K := OpJ.vals fun a w ha hs => by
  obtain ⟨i, zv, hi, rfl, rfl, hz, rfl, hzl⟩ := I.info
  have hs2 : Sat β L w.drew := Has.drew hs
  have hold : (Builtin.firstCells i.size n (.slice oa n cap)).run P w.drew = .ok olds.toArray w.drew := by
    by_cases hn : olds = []
    · have hn0 : n = 0 := by
        rw [hn] at hl
        rcases Nat.mul_eq_zero.1 hl.symm with h0 | h0
        · exact h0
        · omega
      subst hn; subst hn0
      cases oa <;> simp [Builtin.firstCells, loadCells, loadCellsFrom]
    · obtain ⟨b, o, rfl⟩ : ∃ b o, oa = some ⟨b, o, none⟩ := by
        obtain ⟨⟨hp, hlp, _⟩, _⟩ := hs
        obtain ⟨h1', h2', _, rfl, hA, _⟩ := p.star hlp
        exact hr.addr hn hA
      exact run_firstCells_some (P := P) w.drew i.size n ⟨b, o, none⟩ n cap olds hl (hs2.rd p (hr.rd hn))
  have hfit : Builtin.nextslicecap (n + z) cap * i.bytes ≤ 281474976710656 := growslice_fits hg hb
  have hrun := Lib.run_append_grow_zeros w t tn ty e i zv .i64 .i64 S.under htn hi hz oa n cap olds hold z hz0 hk hg (by omega) (by
    have := Nat.mul_le_mul_right i.bytes (show z ≤ n + z by omega); omega) hfit
  have hge := grownCap_ge w (n + z) cap e
  have hzs : zv.cells.size = i.size := by rw [← hzl]; simp
  refine ⟨_, pt w.heap.size (blk (olds ++ (Builtin.zeroCells zv.cells z ++ Builtin.zeroCells zv.cells (grownCap w (n + z) cap e - (n + z))).toList) e) :: L, w.drew.alloc (.cells (olds.toArray ++ Builtin.zeroCells zv.cells z ++ Builtin.zeroCells zv.cells (grownCap w (n + z) cap e - (n + z))) e), ?_, ?_, h w.heap.size (grownCap w (n + z) cap e) _ hge ?_⟩
  · simp only [execOp, resolve, invoke, builtin]
    simp [ha.ev hx, ha.ev hy, hrun]
  · have h1 := Has.alloc hs2 (.cells (olds.toArray ++ Builtin.zeroCells zv.cells z ++ Builtin.zeroCells zv.cells (grownCap w (n + z) cap e - (n + z))) e)
    refine h1.mono fun hp => star_mono (fun hp1 hpt => ?_) fun _ => id
    have he : (olds.toArray ++ Builtin.zeroCells zv.cells z ++ Builtin.zeroCells zv.cells (grownCap w (n + z) cap e - (n + z))) = (⟨olds ++ (Builtin.zeroCells zv.cells z ++ Builtin.zeroCells zv.cells (grownCap w (n + z) cap e - (n + z))).toList⟩ : Array Value) := by
      apply Array.ext'; simp
    rw [he] at hpt
    exact hpt
  · have e1 : (Builtin.zeroCells zv.cells z ++ Builtin.zeroCells zv.cells (grownCap w (n + z) cap e - (n + z))).toList.length = z * i.size + (grownCap w (n + z) cap e - (n + z)) * i.size := by
      rw [Array.length_toList, Array.size_append, size_zeroCells, size_zeroCells, hzs]
    rw [List.length_append, e1, hl, ← Nat.add_mul, ← Nat.add_mul]
    exact Nat.mul_le_mul_right _ (by omega)
theorem OpJ.overlaps {f : FuncId} {fn : Func} {ob oc : Nat} {T1 T2 tr : TypeId} {as1 bs1 : List Value} {b1 b2 o1 o2 l1 c1 l2 c2 : Nat} {ats : Array TypeId} {xs : Operand} (S : SI P t e k) (hf : P.funcs[f]? = some fn) (hname : (fn.name == "runtime.NumGoroutine") = false) (hb : fn.body.isNone = true) (hn : Extern.findNext fn = none) (he : Extern.find fn = some (Extern.SlicesOverlaps.overlaps #[t, t] #[tr]))
    (hc : E.ev xs = some (.func (.func f) ⟨[]⟩ ⟨[]⟩)) (hx : E.ev x = some (.slice (some ⟨b1, o1, none⟩) l1 c1)) (hy : E.ev y = some (.slice (some ⟨b2, o2, none⟩) l2 c2)) (p : Pick L (pt b1 (blk as1 T1)) M) (q : Pick M (pt b2 (blk bs1 T2)) M') (h0 : bs1 ≠ [])
    (h : K (.bool false) L) : OpJ P β E L ⟨d, .call ⟨.value xs, #[x, y], ats⟩, ty, pos, af, g⟩ K :=
  OpJ.same (fun a w ha hs => by
    obtain ⟨⟨hp, hlp, hsub, _⟩, _⟩ := hs
    obtain ⟨h1, h2, hd, rfl, hA, hM⟩ := p.star hlp
    obtain ⟨h3, h4, hd2, rfl, hB, hM2⟩ := q.star hM
    have e1 : w.heap[b1]? = some (.cells ⟨as1⟩ T1 (0, 0)) := hsub b1 _ (by simp [Hp.add, hA b1, blk])
    have hne : b1 ≠ b2 := fun e => by
      subst e
      rcases hd b1 with hh | hh
      · rw [hA b1] at hh; simp at hh
      · have := hB b1; simp [Hp.add, this] at hh
    have e2 : w.heap[b2]? = some (.cells ⟨bs1⟩ T2 (0, 0)) := hsub b2 _ (by
      have hb1 := hA b2; have hb2 := hB b2
      simp [Hp.add, hb1, hb2, blk, Ne.symm hne])
    have hov : (callFunc f #[.slice (some ⟨b1, o1, none⟩) l1 c1, .slice (some ⟨b2, o2, none⟩) l2 c2]).run P w = .ok (.value (.bool false)) w := by
      rw [run_callFunc_extern hf hname hb hn he, Lib.run_overlaps_apart w t tr e S.under k (fun w => S.run_size w) ⟨b1, o1, none⟩ ⟨b2, o2, none⟩ l1 c1 l2 c2 hne T1 T2 as1.length bs1.length (by simp [World.shape?, e1]) (by simp [World.shape?, e2]) (by simpa using h0) (by simp [World.frozen?, e1]) (by simp [World.frozen?, e1])]
      rfl
    simp [execOp, resolve, invoke, Deferred.ofValue, ha.ev hc, ha.ev hx, ha.ev hy, hov]) h
end
end Go.SL

namespace Go.SL
open Go
section
variable {P : Program}
theorem run_eqG {d : Nat} {xs ys : Array Value} (w : World) (b : Field → Bool) : ∀ (fs : List Field), (∀ f ∈ fs, f.name ≠ "_" ∧ ∃ u v, (part f.type xs f.offset).run P w = .ok u w ∧ (part f.type ys f.offset).run P w = .ok v w ∧ (Op.equalIn d f.type u v).run P w = .ok (b f) w) →
    ∃ o, (forIn fs ((none, ()) : Option Bool × Unit) fun f _ => (do
      if f.name ≠ "_" then
        if !(← Op.equalIn d f.type (← part f.type xs f.offset) (← part f.type ys f.offset)) then pure (ForInStep.done (some false, ())) else pure (ForInStep.yield (none, ()))
      else pure (ForInStep.yield (none, ())) : Sem (ForInStep (Option Bool × Unit)))).run P w = .ok o w ∧ (match o.1 with | none => true | some c => c) = fs.all b
  | [], _ => ⟨(none, ()), rfl, rfl⟩
  | f :: fs, h => by
    obtain ⟨hn, u, v, h1, h2, h3⟩ := h f (by simp)
    obtain ⟨o, ih, ho⟩ := run_eqG (d := d) (xs := xs) (ys := ys) w b fs fun g hg => h g (by simp [hg])
    rw [List.forIn_cons]
    cases hb : b f with
    | false =>
      refine ⟨(some false, ()), ?_, by simp [hb]⟩
      simp only [Sem.run_bind, hn, ne_eq, not_false_eq_true, if_true, h1, h2, h3, hb, Result.andThen_ok, Bool.not_false, Sem.run_pure]
    | true =>
      refine ⟨o, ?_, by simp [hb, ho]⟩
      simp only [Sem.run_bind, hn, ne_eq, not_false_eq_true, if_true, h1, h2, h3, hb, Result.andThen_ok, Bool.not_true, Bool.false_eq_true, if_false, Sem.run_pure]
      exact ih
theorem run_equal_two {t : TypeId} {fs : Array Field} {xs ys : List Value} (w : World) (b : Field → Bool) (hu : P.underlying t = some (.struct fs)) (hst : P.stoodInHeld t = false)
    (h : ∀ f ∈ fs.toList, f.name ≠ "_" ∧ ∃ u v, (part f.type ⟨xs⟩ f.offset).run P w = .ok u w ∧ (part f.type ⟨ys⟩ f.offset).run P w = .ok v w ∧ (Op.equalIn 9999 f.type u v).run P w = .ok (b f) w) : (Op.equal t (.agg ⟨xs⟩) (.agg ⟨ys⟩)).run P w = .ok (fs.toList.all b) w := by
  obtain ⟨o, ho, hb⟩ := run_eqG (P := P) (d := 9999) (xs := ⟨xs⟩) (ys := ⟨ys⟩) w b fs.toList h
  unfold Op.equal Op.maxDepth
  unfold Op.equalIn
  simp only [Sem.run_bind, run_underlying hu, Result.andThen_ok, run_program, hst]
  rw [← Array.forIn_toList]
  simp only [Bool.false_eq_true, if_false, Sem.run_bind, ho, Result.andThen_ok]
  rcases o with ⟨_ | c, u⟩
  · simp only at hb; rw [← hb]; rfl
  · simp only at hb; rw [← hb]; rfl
class PlEq (P : Program) (t : TypeId) : Prop where
  run : ∀ (w : World) (x y : Rt), (Op.equal t (.agg ⟨[St x.cur, I x.kind, I x.day]⟩) (.agg ⟨[St y.cur, I y.kind, I y.day]⟩)).run P w = .ok (decide (x.pl y)) w
  guard : P.eqGuardType P.depth t = false
theorem PlEq.of {t k i : TypeId} {ks : Array Field} {f0 f1 : Field} (hu : P.underlying t = some (.struct #[f0, f1])) (hst : P.stoodInHeld t = false) (hg : P.eqGuardType P.depth t = false)
    (h0 : f0.name ≠ "_" ∧ f0.type = k ∧ f0.offset = 0) (h1 : f1.name ≠ "_" ∧ f1.type = i ∧ f1.offset = 2)
    (hk : P.underlying k = some (.struct ks)) (hs : (P.info? k).map (·.size) = some 2) (hall : ks.toList.zipIdx.all (fun (f, i) => f.name != "_" && f.offset == i) = true) (hst2 : P.stoodInHeld k = false) (hm : ks.toList.mapM (fun f => (P.underlying f.type).bind Bk.of) = some [.str, .int])
    (hi : (P.underlying i).bind Bk.of = some .int) : PlEq P t := by
  refine ⟨fun w x y => ?_, hg⟩
  rw [show decide (x.pl y) = [f0, f1].all (fun f => if f.offset = 0 then decide (x.cur = y.cur) && decide (x.kind = y.kind) else decide (x.day = y.day)) by
    simp only [List.all_cons, List.all_nil, h0.2.2, h1.2.2, Bool.and_true, if_true, show ¬ (2 : Nat) = 0 by decide, if_false]
    rw [Bool.eq_iff_iff]; simp [Rt.pl, and_assoc]]
  refine run_equal_two (P := P) w (fun f => if f.offset = 0 then decide (x.cur = y.cur) && decide (x.kind = y.kind) else decide (x.day = y.day)) hu hst fun f hf => ?_
  simp only [List.mem_cons, List.not_mem_nil, or_false] at hf
  rcases hf with rfl | rfl
  · obtain ⟨hn, ht, ho⟩ := h0
    refine ⟨hn, .agg ⟨[St x.cur, I x.kind]⟩, .agg ⟨[St y.cur, I y.kind]⟩, ?_, ?_, ?_⟩
    · rw [ht, ho, run_part_agg w hk hs]; rfl
    · rw [ht, ho, run_part_agg w hk hs]; rfl
    · rw [ht, if_pos ho]
      refine run_equalIn_struct (d := 9997) w hk hall hst2 hm ?_
      by_cases e1 : x.cur = y.cur <;> by_cases e2 : x.kind = y.kind <;> simp [eqCells, eqCell, e1, e2]
  · obtain ⟨hn, ht, ho⟩ := h1
    refine ⟨hn, I x.day, I y.day, ?_, ?_, ?_⟩
    · rw [ht, ho]; exact run_part_one w hi rfl
    · rw [ht, ho]; exact run_part_one w hi rfl
    · rw [ht, if_neg (by rw [ho]; decide)]; exact run_equalIn_cell (d := 9998) w hi (by simp [eqCell])
end
section
variable {P : Program} {β : Base} {E : Env} {L L' M : List HP} {K : Value → List HP → Prop} {d : Option Tmp} {ty : TypeId} {pos : String} {af : Array Edge} {g : Option (Nat × Bool)} {x y : Operand} {t t' : TypeId}
theorem DetJ.eqlP (a b : Rt) (I : PlEq P t) (hx : E.ev x = some (.agg ⟨[St a.cur, SL.I a.kind, SL.I a.day]⟩)) (hy : E.ev y = some (.agg ⟨[St b.cur, SL.I b.kind, SL.I b.day]⟩)) : DetJ P β E L ⟨d, .binOp .eql t x y t', ty, pos, af, g⟩ (.bool (decide (a.pl b))) :=
  fun ac w ha _ => by
    simp only [execOp, ha.ev hx, ha.ev hy, Sem.run_bind, run_eqGuard_agg w I.guard, Result.andThen_ok, binOp, I.run w a b]
    rfl
end
theorem kaS {P : Program} {t : TypeId} (ki : keyInfo P t = some [(0, false), (1, true)]) (ei : EI P t [.str, .int]) : KeyAgg P t encS where
  check := fun em n a w => by
    obtain ⟨fs, hu, hp⟩ := keyInfo_spec ki
    refine run_checkAgg hu hp (fun p hp => ?_) em n w
    simp only [List.mem_cons, List.not_mem_nil, or_false] at hp
    rcases hp with rfl | rfl
    · exact ⟨_, rfl, keyStr.isk a.1⟩
    · exact ⟨_, rfl, rfl⟩
  under := by obtain ⟨fs, hu, _⟩ := keyInfo_spec ki; exact ⟨fs, hu⟩
  eq := fun a c w => by
    refine ei.run w _ _ _ ?_
    obtain ⟨a1, a2⟩ := a
    obtain ⟨c1, c2⟩ := c
    simp only [eqCells, eqCell, Prod.mk.injEq]
    by_cases h1 : a1 = c1 <;> by_cases h2 : a2 = c2 <;> simp [h1, h2]
  stays := fun a w => by simp [encS, Instr.keyThatStays, Instr.sameBits, str_beq]
section
variable {α : Type} {enc : α → List Value} {k : Nat} {l : List α} {x : α} {i : Nat}
theorem put_up (hk : ∀ x, (enc x).length = k) (hi : i ≤ l.length) {all junk : List Value} (ha : all = l.flatMap enc ++ junk) (hj : (l.length + 1) * k ≤ all.length) : ∃ junk',
    (all.take ((i + 1) * k) ++ (l.drop i).flatMap enc ++ all.drop ((i + 1) * k + ((l.drop i).flatMap enc).length)).take (i * k) ++ enc x ++ (all.take ((i + 1) * k) ++ (l.drop i).flatMap enc ++ all.drop ((i + 1) * k + ((l.drop i).flatMap enc).length)).drop (i * k + (enc x).length) = (l.take i ++ x :: l.drop i).flatMap enc ++ junk' := by
  have e1 : l.flatMap enc = (l.take i).flatMap enc ++ (l.drop i).flatMap enc := by rw [← List.flatMap_append, List.take_append_drop]
  have e2 : ((l.take i).flatMap enc).length = i * k := by rw [flat_len hk, List.length_take, Nat.min_eq_left hi]
  have e3 : ((l.drop i).flatMap enc).length = (l.length - i) * k := by rw [flat_len hk, List.length_drop]
  have hik : i * k + k = (i + 1) * k := (Nat.succ_mul i k).symm
  have hlk : (i + 1) * k + (l.length - i) * k = (l.length + 1) * k := by rw [← Nat.add_mul]; congr 1; omega
  refine ⟨all.drop ((i + 1) * k + ((l.drop i).flatMap enc).length), ?_⟩
  have t1 : (all.take ((i + 1) * k)).length = (i + 1) * k := by rw [List.length_take]; omega
  have t2 : all.take (i * k) = (l.take i).flatMap enc := by rw [ha, e1, List.append_assoc, List.take_append_of_le_length (by omega), List.take_of_length_le (by omega)]
  have h1 : ∀ Y : List Value, (all.take ((i + 1) * k) ++ Y).take (i * k) = (l.take i).flatMap enc := fun Y => by rw [List.take_append_of_le_length (by omega), List.take_take, Nat.min_eq_left (by omega), t2]
  have h2 : ∀ Y : List Value, (all.take ((i + 1) * k) ++ Y).drop (i * k + (enc x).length) = Y := fun Y => by rw [hk x, hik, List.drop_append_of_le_length (by omega), List.drop_of_length_le (by omega), List.nil_append]
  simp only [List.append_assoc]
  rw [h1, h2, List.flatMap_append, List.flatMap_cons]
  simp only [List.append_assoc]
theorem put_new (hk : ∀ x, (enc x).length = k) (hi : i ≤ l.length) {all junk : List Value} (ha : all = (l.take i).flatMap enc ++ junk) (hj : (l.length + 1) * k ≤ all.length) : ∃ junk',
    (all.take (i * k) ++ enc x ++ all.drop (i * k + (enc x).length)).take ((i + 1) * k) ++ (l.drop i).flatMap enc ++ (all.take (i * k) ++ enc x ++ all.drop (i * k + (enc x).length)).drop ((i + 1) * k + ((l.drop i).flatMap enc).length) = (l.take i ++ x :: l.drop i).flatMap enc ++ junk' := by
  have e2 : ((l.take i).flatMap enc).length = i * k := by rw [flat_len hk, List.length_take, Nat.min_eq_left hi]
  have e3 : ((l.drop i).flatMap enc).length = (l.length - i) * k := by rw [flat_len hk, List.length_drop]
  have hik : i * k + k = (i + 1) * k := (Nat.succ_mul i k).symm
  have hlk : (i + 1) * k + (l.length - i) * k = (l.length + 1) * k := by rw [← Nat.add_mul]; congr 1; omega
  have t2 : all.take (i * k) = (l.take i).flatMap enc := by rw [ha, List.take_append_of_le_length (by omega), List.take_of_length_le (by omega)]
  have t3 : (all.take (i * k) ++ enc x).length = (i + 1) * k := by rw [List.length_append, hk, t2, e2, hik]
  have h1 : ∀ Y : List Value, (all.take (i * k) ++ enc x ++ Y).take ((i + 1) * k) = all.take (i * k) ++ enc x := fun Y => by rw [List.take_append_of_le_length (by omega), List.take_of_length_le (by omega)]
  refine ⟨(all.take (i * k) ++ enc x ++ all.drop (i * k + (enc x).length)).drop ((i + 1) * k + ((l.drop i).flatMap enc).length), ?_⟩
  rw [h1, t2, List.flatMap_append, List.flatMap_cons]
  simp only [List.append_assoc]
theorem put_last (hk : ∀ x, (enc x).length = k) : (l ++ [x]).flatMap enc = l.flatMap enc ++ enc x := by rw [List.flatMap_append, List.flatMap_cons, List.flatMap_nil, List.append_nil]
end
theorem low_of {l : List Rt} {v : Int} {m : Nat} {y : Rt} (hp : l.Pairwise ltD) (hy : l[m]? = some y) (h : y.day < v) : ∀ (j : Nat) z, j ≤ m → l[j]? = some z → z.day < v := fun j z hj hz => by
  by_cases e : j = m
  · subst e; rw [hy] at hz; cases hz; exact h
  · obtain ⟨h1, rfl⟩ := List.getElem?_eq_some_iff.1 hz
    obtain ⟨h2, rfl⟩ := List.getElem?_eq_some_iff.1 hy
    have h3 : l[j].day < l[m].day := (List.pairwise_iff_getElem.1 hp) j m h1 h2 (by omega)
    omega
theorem high_of {l : List Rt} {v : Int} {m : Nat} {y : Rt} (hp : l.Pairwise ltD) (hy : l[m]? = some y) (h : ¬ y.day < v) : ∀ (j : Nat) z, m ≤ j → l[j]? = some z → ¬ z.day < v := fun j z hj hz => by
  by_cases e : j = m
  · subst e; rw [hy] at hz; cases hz; exact h
  · obtain ⟨h1, rfl⟩ := List.getElem?_eq_some_iff.1 hz
    obtain ⟨h2, rfl⟩ := List.getElem?_eq_some_iff.1 hy
    have h3 : l[m].day < l[j].day := (List.pairwise_iff_getElem.1 hp) m j h2 h1 (by omega)
    omega
theorem new_yes {p : List Rt} {r : Rt} {k : Nat} (hl : ∀ (j : Nat) y, j < k → (serL p r.cur r.kind)[j]? = some y → y.day < r.day) (hp : (serL p r.cur r.kind).Pairwise ltD) (h : ∀ y, (serL p r.cur r.kind)[k]? = some y → ¬ y.day < r.day ∧ ¬ y.pl r) : newR p r = true := by
  unfold newR
  rw [List.all_eq_true]
  intro s hs
  simp only [Bool.not_eq_true', decide_eq_false_iff_not]
  rintro ⟨h1, h2, h3⟩
  have hm : s ∈ serL p r.cur r.kind := ser_mem.2 ⟨hs, h1, h2⟩
  obtain ⟨j, hj, e⟩ := List.getElem_of_mem hm
  have hjs : (serL p r.cur r.kind)[j]? = some s := by rw [List.getElem?_eq_getElem hj, e]
  rcases Nat.lt_trichotomy j k with hlt | rfl | hgt
  · have := hl j s hlt hjs; omega
  · exact (h s hjs).2 ⟨h1, h2, h3⟩
  · have hk : k < (serL p r.cur r.kind).length := by omega
    have h4 := List.getElem?_eq_getElem hk
    have h5 := (h _ h4).1
    have h6 := high_of hp h4 h5 j s (by omega) hjs
    have h7 : (serL p r.cur r.kind)[k].day < (serL p r.cur r.kind)[j].day := (List.pairwise_iff_getElem.1 hp) k j hk hj hgt
    rw [e] at h7
    omega
theorem new_no {p : List Rt} {r y : Rt} (hy : y ∈ serL p r.cur r.kind) (h : y.pl r) : newR p r = false := by
  rw [Bool.eq_false_iff]
  intro hn
  exact new_day hn y hy h.2.2
theorem cutA_some {k b c i : Nat} (h : c ≠ i) : cutA k (some ⟨b, 0, none⟩) c i = some ⟨b, i * k, none⟩ := by
  unfold cutA; simp [h, Addr.add]; omega
section
variable {α : Type} {enc : α → List Value} {k b n cap i : Nat} {l : List α} {T : TypeId}
theorem rd_dropJ (hk : ∀ x, (enc x).length = k) (hi : i ≤ l.length) {junk : List Value} : Rd (pt b (blk (l.flatMap enc ++ junk) T)) ⟨b, i * k, none⟩ ((l.drop i).flatMap enc) := Rd.pt fun j v hv => by
  have e1 : l.flatMap enc = (l.take i).flatMap enc ++ (l.drop i).flatMap enc := by rw [← List.flatMap_append, List.take_append_drop]
  have e2 : ((l.take i).flatMap enc).length = i * k := by rw [flat_len hk, List.length_take, Nat.min_eq_left hi]
  have hj := (List.getElem?_eq_some_iff.1 hv).1
  rw [e1, List.append_assoc, List.getElem?_append_right (by omega), e2, Nat.add_sub_cancel_left, List.getElem?_append_left hj]
  exact hv
theorem own.dropRd (hk : ∀ x, (enc x).length = k) (h0 : 0 < k) (hi : i < l.length) : Rd (own T k (some ⟨b, 0, none⟩) n cap (l.flatMap enc)) ⟨b, i * k, none⟩ ((l.drop i).flatMap enc) := by
  have hne : l.flatMap enc ≠ [] := flat_ne hk h0 (List.getElem?_eq_getElem hi)
  have h := own.rd (T := T) (k := k) (b := b) (n := n) (cap := cap) hne
  rw [← List.take_append_drop i l] at h
  have h2 := Rd.drop hk h
  rw [List.take_append_drop, List.length_take, Nat.min_eq_left (by omega), Nat.zero_add] at h2
  exact h2
end
def cmpI (a b : Int) : Int := if a < b then -1 else if b < a then 1 else 0
theorem sr_back {T : TypeId} {m : List Sr} {c : ByteArray} {k : Int} : ∀ h, star (own T 5 (srAt m c k).a (srAt m c k).l.length (srAt m c k).c ((srAt m c k).l.flatMap Rt.c)) (srRest T m c k) h → big (srH T) m h := fun h hb => by
  unfold srAt srRest at hb
  cases hk : kAt srK (c, k) m with
  | none =>
    rw [hk] at hb
    obtain ⟨h1, h2, _, rfl, ⟨_, _, h3⟩, h4⟩ := hb
    rcases h3 with ⟨_, h3⟩ | ⟨b, junk, e, _⟩
    · rw [Hp.add_none h3]; exact h4
    · cases e
  | some q =>
    rw [hk] at hb
    have hq := (kAt_some (x := q.2) (i := q.1) hk).1
    have h5 := big_in (f := srH T) (List.getElem?_eq_some_iff.1 hq).1 h hb
    rw [setId hq] at h5; exact h5
section
variable {P : Program} {β : Base} {n : Nat} {arr : Array Oper} {os : List Oper} {E : Env} {L M M' : List HP} {KK : Env → List HP → Prop}
theorem RunL.srBack (T : TypeId) (m : List Sr) (c : ByteArray) (k : Int) (p : Pick L (own T 5 (srAt m c k).a (srAt m c k).l.length (srAt m c k).c ((srAt m c k).l.flatMap Rt.c)) M) (q : Pick M (srRest T m c k) M') (h : RunL P β n arr os E (big (srH T) m :: M') KK) : RunL P β n arr os E L KK :=
  RunL.mapL (fun w hs => Has.mono hs (pick_join p q sr_back)) h
theorem RunL.fxNone (C S : TypeId) (h : RunL P β n arr os E (fxH C S none :: L) KK) : RunL P β n arr os E L KK :=
  RunL.mapL (L' := fxH C S none :: L) (fun w hs => Has.mono hs fun h hh => ⟨fun _ => none, h, fun b => .inl rfl, by funext b; simp [Hp.add], fun _ => rfl, hh⟩) h
end
def insT (m : List Sr) (p : List Rt) (r : Rt) (x : Option Addr × Nat) : List Sr := if newR p r = true then kSet srK ⟨r.cur, r.kind, x.1, x.2, insR r (srAt m r.cur r.kind).l⟩ m else m
theorem fx_ok {base : ByteArray} {l : List Rt} {i : Nat} (hc : curB base = true) (hl : ¬ 2000 < (l.length : Int)) (h : FxI base l i) (hi : l.length ≤ i) : fxB base l = true := by
  unfold fxB; rw [hc, h.done hi]; simp; omega
theorem fx_no {base : ByteArray} {l : List Rt} {i : Nat} {r : Rt} (hr : l[i]? = some r) (h : ¬ (rtE base r = 0 ∧ newR (l.take i) r = true)) : fxB base l = false := by
  unfold fxB; rw [fx_bad hr h, Bool.and_false]
theorem fx_sorted {base : ByteArray} {l : List Rt} (h : fxB base l = true) (c : ByteArray) (k : Int) : (serL l c k).Pairwise ltD := by
  unfold fxB at h
  simp only [Bool.and_eq_true] at h
  have h2 := ser_pair (base := base) (l := l) c k (i := l.length) (fun j r _ hr => by have := fxG_at.1 h.2 j r hr; simpa using this) (Nat.le_refl _)
  rwa [List.take_length] at h2
end Go.SL

namespace Go.SL
open Go
def Bd (n : Int) : Prop := 1 ≤ n ∧ n ≤ 1000000
theorem rt_bd {base : ByteArray} {r : Rt} (h : rtE base r = 0) : Bd r.n ∧ Bd r.d := by
  unfold rtE at h
  split at h
  · cases h
  · split at h
    · cases h
    · split at h
      · cases h
      · split at h
        · cases h
        · rename_i h4
          unfold frB at h4
          simp only [Bool.or_eq_true, Bool.not_eq_true', decide_eq_true_eq, decide_eq_false_iff_not, not_or, Decidable.not_not] at h4
          obtain ⟨⟨h5, h6, _⟩, h7⟩ := h4
          exact ⟨⟨by omega, by omega⟩, ⟨by omega, by omega⟩⟩
theorem last_mem {t : List Rt} {day : Int} {r : Rt} (h : lastRq day t = some r) : r ∈ t := (List.mem_filter.1 (List.mem_of_getLast? h)).1
theorem find_bd {base : ByteArray} {l : List Rt} {c : ByteArray} {k day : Int} (hf : fxB base l = true) (h : (findM base l c k day).2.2 = 0) : Bd (findM base l c k day).1 ∧ Bd (findM base l c k day).2.1 := by
  unfold findM at h ⊢
  split at h
  · cases h
  · rename_i h1; rw [if_neg h1]; split at h
    · cases h
    · rename_i h2; rw [if_neg h2]; split at h
      · cases h
      · rename_i h3; rw [if_neg h3]; split at h
        · rename_i h4; rw [if_pos h4]; exact ⟨⟨by decide, by decide⟩, ⟨by decide, by decide⟩⟩
        · rename_i h4; rw [if_neg h4]
          cases hl : lastRq day (serL l c k) with
          | none => rw [hl] at h; cases h
          | some r =>
            have hm := (ser_mem.1 (last_mem hl)).1
            obtain ⟨j, hj, e⟩ := List.getElem_of_mem hm
            unfold fxB at hf
            simp only [Bool.and_eq_true] at hf
            exact rt_bd (fxG_at.1 hf.2 j r (by rw [List.getElem?_eq_getElem hj, e])).1
theorem bd_mul {a b : Int} (h : Bd a) (k : Bd b) : 1 ≤ a * b ∧ a * b ≤ 1000000000000 := by
  obtain ⟨a1, a2⟩ := h
  obtain ⟨b1, b2⟩ := k
  constructor
  · have := Int.mul_le_mul a1 b1 (by omega) (by omega); simpa using this
  · have := Int.mul_le_mul a2 b2 (by omega) (by omega); simpa using this
theorem gcd_pos {n d : Int} (h : 1 ≤ n) : 1 ≤ (Int.gcd n d : Int) ∧ (Int.gcd n d : Int) ≤ n := by
  have h1 : 0 < Int.gcd n d := Int.gcd_pos_of_ne_zero_left d (by omega)
  exact ⟨by omega, Int.le_of_dvd (by omega) (Int.gcd_dvd_left n d)⟩
theorem gcd_pos' {n d : Int} (h : 1 ≤ d) : 1 ≤ (Int.gcd n d : Int) ∧ (Int.gcd n d : Int) ≤ d := by rw [Int.gcd_comm]; exact gcd_pos h
theorem div_bd {n g : Int} (hn : 1 ≤ n) (hg : 1 ≤ g ∧ g ≤ n) (hb : n ≤ 1000000000000) : 1 ≤ n / g ∧ n / g ≤ 1000000000000 := by
  constructor
  · exact (Int.le_ediv_iff_mul_le (by omega)).2 (by omega)
  · exact Int.le_trans (Int.ediv_le_self _ (by omega)) hb
theorem cross_bd {base : ByteArray} {l : List Rt} {c e : ByteArray} {k day : Int} (hf : fxB base l = true) (h : (crossM base l c e k day).2.2 = 0) : (1 ≤ (crossM base l c e k day).1 ∧ (crossM base l c e k day).1 ≤ 1000000000000) ∧ 1 ≤ (crossM base l c e k day).2.1 ∧ (crossM base l c e k day).2.1 ≤ 1000000000000 := by
  unfold crossM at h ⊢
  by_cases h1 : (findM base l c k day).2.2 = 0
  · rw [if_pos h1] at h ⊢
    by_cases h2 : (findM base l e k day).2.2 = 0
    · rw [if_pos h2]
      obtain ⟨b1, b2⟩ := find_bd hf h1
      obtain ⟨b3, b4⟩ := find_bd hf h2
      have m1 := bd_mul b1 b4
      have m2 := bd_mul b2 b3
      exact ⟨div_bd m1.1 (gcd_pos m1.1) m1.2, div_bd m2.1 (gcd_pos' m2.1) m2.2⟩
    · rw [if_neg h2] at h; exact absurd h h2
  · rw [if_neg h1] at h; exact absurd h h1
theorem Rd.tl {R : HP} {b o : Nat} {p q : List Value} (h : Rd R ⟨b, o, none⟩ (p ++ q)) : Rd R ⟨b, o + p.length, none⟩ q := fun hp hR => by
  obtain ⟨cs, t, fr, h1, h2, h3⟩ := h hp hR
  refine ⟨cs, t, fr, h1, rfl, fun j v hv => ?_⟩
  have := h3 (p.length + j) v (by rw [List.getElem?_append_right (by omega), Nat.add_sub_cancel_left]; exact hv)
  simpa [Nat.add_assoc] using this
section
variable {P : Program} {β : Base} {n : Nat} {arr : Array Oper} {os : List Oper} {E : Env} {L F : List HP} {KK : Env → List HP → Prop}
theorem RunL.fxSome (C S : TypeId) (y : Fxv) (tk : Takes L [pt y.b (blk [St y.base, I y.n, .map (some y.bm)] C), amap y.bm srF srG y.m, big (srH S) y.m] F) (h : RunL P β n arr os E (fxH C S (some y) :: F) KK) : RunL P β n arr os E L KK := RunL.packs _ tk h
end
theorem conv_bd (base : ByteArray) (l : List Rt) (a : Int) (c e : ByteArray) (k day mode : Int) : -1000000000000000 ≤ (convM base l a c e k day mode).1 ∧ (convM base l a c e k day mode).1 ≤ 1000000000000000 := by
  unfold convM
  split
  · exact ⟨by decide, by decide⟩
  · split
    · split
      · exact ⟨by decide, by decide⟩
      · split
        · exact ⟨by decide, by decide⟩
        · rename_i h
          simp only [not_or] at h
          have h2 := h.2
          unfold largeB at h2
          simp only [decide_eq_true_eq, not_or] at h2
          show _ ≤ mdN _ _ _ _ ∧ mdN _ _ _ _ ≤ _
          omega
    · exact ⟨(by decide : (-1000000000000000 : Int) ≤ 0), (by decide : (0 : Int) ≤ 1000000000000000)⟩
end Go.SL

namespace Go.SL
open Go
def celB (x : Cl) : Bool := !decide (x.amt = 0 ∧ x.base = 0) && withinB x.amt && withinB x.base
def shB : List Cl → Bool
  | [] => true
  | [x] => celB x
  | x :: y :: t => celB x && decide (cmpK x.k y.k < 0) && shB (y :: t)
theorem shB_at : ∀ {l : List Cl}, shB l = true ↔ ∀ (i : Nat) x, l[i]? = some x → celB x = true ∧ ∀ (j : Nat) y, i = j + 1 → l[j]? = some y → cmpK y.k x.k < 0
  | [] => by simp [shB]
  | [t] => by
    simp only [shB]
    constructor
    · intro h i u hi
      match i, hi with
      | 0, hi => simp at hi; subst hi; exact ⟨h, fun j u hj => by omega⟩
    · intro h; exact (h 0 t rfl).1
  | t :: u :: r => by
    simp only [shB, Bool.and_eq_true, decide_eq_true_eq]
    rw [shB_at (l := u :: r)]
    constructor
    · rintro ⟨⟨h1, h2⟩, h3⟩ i x hi
      match i, hi with
      | 0, hi => simp at hi; subst hi; exact ⟨h1, fun j u hj => by omega⟩
      | 1, hi =>
        simp at hi; subst hi
        refine ⟨(h3 0 u rfl).1, fun j y hj hy => ?_⟩
        obtain rfl : j = 0 := by omega
        simp at hy; subst hy; exact h2
      | i + 2, hi =>
        refine ⟨(h3 (i + 1) x (by simpa using hi)).1, fun j y hj hy => ?_⟩
        obtain rfl : j = i + 1 := by omega
        exact (h3 (i + 1) x (by simpa using hi)).2 i y rfl (by simpa using hy)
    · intro h
      refine ⟨⟨(h 0 t rfl).1, (h 1 u rfl).2 0 t rfl rfl⟩, fun i x hi => ⟨(h (i + 1) x (by simpa using hi)).1, fun j y hj hy => ?_⟩⟩
      exact (h (i + 1) x (by simpa using hi)).2 (j + 1) y (by omega) (by simpa using hy)
def shTo (l : List Cl) (i : Nat) : Prop := ∀ (k : Nat) x, k < i → l[k]? = some x → celB x = true ∧ ∀ (j : Nat) y, k = j + 1 → l[j]? = some y → cmpK y.k x.k < 0
theorem shTo.zero {l : List Cl} : shTo l 0 := fun k t h => by omega
theorem shTo.step {l : List Cl} {i : Nat} {x : Cl} (h : shTo l i) (hx : l[i]? = some x) (h1 : celB x = true) (h2 : ∀ (j : Nat) y, i = j + 1 → l[j]? = some y → cmpK y.k x.k < 0) : shTo l (i + 1) := fun k z hk hz => by
  by_cases e : k = i
  · subst e; rw [hx] at hz; cases hz; exact ⟨h1, h2⟩
  · exact h k z (by omega) hz
theorem shTo.all {l : List Cl} {i : Nat} (h : shTo l i) (hi : l.length ≤ i) : shB l = true := shB_at.2 fun k x hk => h k x (by have := (List.getElem?_eq_some_iff.1 hk).1; omega) hk
theorem sh_bad {l : List Cl} {i : Nat} {x : Cl} (hx : l[i]? = some x) (h : celB x = false) : shB l = false := by
  cases hh : shB l with
  | false => rfl
  | true => have := (shB_at.1 hh i x hx).1; rw [h] at this; cases this
theorem sh_fall {l : List Cl} {j : Nat} {x y : Cl} (hx : l[j + 1]? = some x) (hy : l[j]? = some y) (h : ¬ cmpK y.k x.k < 0) : shB l = false := by
  cases hh : shB l with
  | false => rfl
  | true => exact absurd ((shB_at.1 hh (j + 1) x hx).2 j y rfl hy) h
structure Rv where
  xs : List Ac
  base : ByteArray
  rs : List Rt
  day : Int
  mode : Int
  gain : ByteArray
  loss : ByteArray
abbrev Rv.conv (p : Rv) (x : Cl) : Int × Int := convM p.base p.rs x.amt x.k.cur p.base 1 p.day p.mode
def Rv.lns (p : Rv) (x : Cl) (ts : List Tg) (d : Int) : List Ln :=
  if d = 0 then [] else [⟨x.k.acc, x.k.cur, 0, d, x.k.partner, bs0, none, 0, ts⟩, ⟨if d < 0 then p.loss else p.gain, x.k.cur, 0, -d, bs0, bs0, none, 0, []⟩]
def Rv.one (p : Rv) (x : Cl) : List Ln × Int :=
  match getL p.xs x.k.acc with
  | none => ([], 12)
  | some a => match parseT x.k.tags with
    | none => ([], 14)
    | some ts => if a.mon = false ∨ x.k.cur = p.base then ([], 0) else if (p.conv x).2 = 0 then (p.lns x ts ((p.conv x).1 - x.base), 0) else ([], (p.conv x).2)
def Rv.go (p : Rv) : List Cl → List Ln × Int
  | [] => ([], 0)
  | x :: t => if (p.one x).2 = 0 then (if (p.go t).2 = 0 then ((p.one x).1 ++ (p.go t).1, 0) else ([], (p.go t).2)) else ([], (p.one x).2)
def RvI (p : Rv) (l : List Cl) (i : Nat) (acc : List Ln) : Prop := p.go l = if (p.go (l.drop i)).2 = 0 then (acc ++ (p.go (l.drop i)).1, 0) else ([], (p.go (l.drop i)).2)
theorem Rv.go_err {p : Rv} : ∀ {l : List Cl}, ¬ (p.go l).2 = 0 → (p.go l).1 = []
  | [], h => by simp [Rv.go] at h
  | x :: t, h => by
    simp only [Rv.go] at h ⊢
    split
    · split
      · rename_i h1 h2; rw [if_pos h1, if_pos h2] at h; exact absurd rfl h
      · rfl
    · rfl
theorem Rv.go_pair {p : Rv} {l : List Cl} : p.go l = if (p.go l).2 = 0 then ((p.go l).1, 0) else ([], (p.go l).2) := by
  by_cases h : (p.go l).2 = 0
  · rw [if_pos h]; exact Prod.ext rfl h
  · rw [if_neg h]; exact Prod.ext (Rv.go_err h) rfl
theorem RvI.start {p : Rv} {l : List Cl} : RvI p l 0 [] := by unfold RvI; simp only [List.drop_zero, List.nil_append]; exact Rv.go_pair
theorem RvI.step {p : Rv} {l : List Cl} {i : Nat} {acc : List Ln} {x : Cl} (h : RvI p l i acc) (hx : l[i]? = some x) (h0 : (p.one x).2 = 0) : RvI p l (i + 1) (acc ++ (p.one x).1) := by
  unfold RvI at h ⊢
  rw [h, drop_at hx, Rv.go, if_pos h0]
  by_cases h1 : (p.go (l.drop (i + 1))).2 = 0
  · rw [if_pos h1, if_pos h1, if_pos rfl, List.append_assoc]
  · rw [if_neg h1, if_neg h1, if_neg h1]
theorem RvI.bad {p : Rv} {l : List Cl} {i : Nat} {acc : List Ln} {x : Cl} (h : RvI p l i acc) (hx : l[i]? = some x) (h0 : ¬ (p.one x).2 = 0) : p.go l = ([], (p.one x).2) := by
  unfold RvI at h
  rw [h, drop_at hx, Rv.go, if_neg h0, if_neg h0]
theorem RvI.done {p : Rv} {l : List Cl} {i : Nat} {acc : List Ln} (h : RvI p l i acc) (hi : l.length ≤ i) : p.go l = (acc, 0) := by
  unfold RvI at h
  rw [h, List.drop_eq_nil_of_le hi, Rv.go, if_pos rfl, List.append_nil]
theorem rv_none {p : Rv} {x : Cl} (h : getL p.xs x.k.acc = none) : p.one x = ([], 12) := by unfold Rv.one; rw [h]
theorem rv_tag {p : Rv} {x : Cl} {a : Ac} (h : getL p.xs x.k.acc = some a) (h2 : parseT x.k.tags = none) : p.one x = ([], 14) := by unfold Rv.one; rw [h, h2]
theorem rv_skip {p : Rv} {x : Cl} {a : Ac} {ts : List Tg} (h : getL p.xs x.k.acc = some a) (h2 : parseT x.k.tags = some ts) (h3 : a.mon = false ∨ x.k.cur = p.base) : p.one x = ([], 0) := by unfold Rv.one; rw [h, h2]; exact if_pos h3
theorem rv_bad {p : Rv} {x : Cl} {a : Ac} {ts : List Tg} (h : getL p.xs x.k.acc = some a) (h2 : parseT x.k.tags = some ts) (h3 : ¬ (a.mon = false ∨ x.k.cur = p.base)) (h4 : ¬ (p.conv x).2 = 0) : p.one x = ([], (p.conv x).2) := by
  unfold Rv.one; rw [h, h2]; simp only; rw [if_neg h3, if_neg h4]
theorem rv_ok {p : Rv} {x : Cl} {a : Ac} {ts : List Tg} (h : getL p.xs x.k.acc = some a) (h2 : parseT x.k.tags = some ts) (h3 : ¬ (a.mon = false ∨ x.k.cur = p.base)) (h4 : (p.conv x).2 = 0) : p.one x = (p.lns x ts ((p.conv x).1 - x.base), 0) := by
  unfold Rv.one; rw [h, h2]; simp only; rw [if_neg h3, if_pos h4]
def alB (a b : Ln) : Bool := decide (a.acc = b.acc) && decide (a.cur = b.cur) && decide (a.partner = b.partner) && decide (a.party = b.party) && decide (a.tags = b.tags)
def grpL (ls : List Ln) (y : Ln) : List Ln := ls.filter fun z => alB z y
def fitL (ls : List Ln) (y : Ln) : Bool := wiB (amts (grpL ls y)).sum 1000000000000 && wiB (bass (grpL ls y)).sum 1000000000000
def sumLn (ls : List Ln) (y : Ln) : Ln := ⟨y.acc, y.cur, (amts (grpL ls y)).sum, (bass (grpL ls y)).sum, y.partner, y.party, none, 0, y.tags⟩
def nzL (ls : List Ln) (y : Ln) : List Ln := if (amts (grpL ls y)).sum = 0 ∧ (bass (grpL ls y)).sum = 0 then [] else [sumLn ls y]
def mrgF (ls : List Ln) : List Ln → List Ln → Option (List Ln)
  | _, [] => some []
  | p, y :: t => if p.any (fun z => alB z y) = true then mrgF ls (p ++ [y]) t else if fitL ls y = true then (mrgF ls (p ++ [y]) t).map (nzL ls y ++ ·) else none
def mergeL (ls : List Ln) : List Ln × Int := match mrgF ls [] ls with | none => ([], 4) | some m => (m, 0)
def MgI (ls : List Ln) (i : Nat) (acc : List Ln) : Prop := mrgF ls [] ls = (mrgF ls (ls.take i) (ls.drop i)).map (acc ++ ·)
theorem MgI.start {ls : List Ln} : MgI ls 0 [] := by unfold MgI; simp
theorem MgI.skip {ls : List Ln} {i : Nat} {acc : List Ln} {y : Ln} (h : MgI ls i acc) (hy : ls[i]? = some y) (h1 : (ls.take i).any (fun z => alB z y) = true) : MgI ls (i + 1) acc := by
  unfold MgI at h ⊢
  rw [h, drop_at hy, mrgF, if_pos h1, take_step hy]
theorem MgI.step {ls : List Ln} {i : Nat} {acc : List Ln} {y : Ln} (h : MgI ls i acc) (hy : ls[i]? = some y) (h1 : (ls.take i).any (fun z => alB z y) = false) (h2 : fitL ls y = true) : MgI ls (i + 1) (acc ++ nzL ls y) := by
  unfold MgI at h ⊢
  rw [h, drop_at hy, mrgF, if_neg (by rw [h1]; simp), if_pos h2, take_step hy, Option.map_map]
  congr 1
  funext t
  simp
theorem MgI.bad {ls : List Ln} {i : Nat} {acc : List Ln} {y : Ln} (h : MgI ls i acc) (hy : ls[i]? = some y) (h1 : (ls.take i).any (fun z => alB z y) = false) (h2 : fitL ls y = false) : mergeL ls = ([], 4) := by
  unfold MgI at h
  unfold mergeL
  rw [h, drop_at hy, mrgF, if_neg (by rw [h1]; simp), if_neg (by rw [h2]; simp)]; rfl
theorem MgI.done {ls : List Ln} {i : Nat} {acc : List Ln} (h : MgI ls i acc) (hi : ls.length ≤ i) : mergeL ls = (acc, 0) := by
  unfold MgI at h
  unfold mergeL
  rw [h, List.drop_eq_nil_of_le hi, mrgF]; simp
def ofE (ent : ByteArray) (l : List Cl) : List Cl := l.filter fun x => decide (x.k.ent = ent)
def enR (ent who : ByteArray) (book day : Int) (ls : List Ln) : En := ⟨0, ent, book, day, 6, bs0, who, 0, none, 0, ls⟩
def Rv.entry (p : Rv) (l : List Cl) (ent who : ByteArray) (book : Int) : En × Int :=
  if shB l = false then (en0, 2)
  else if (p.go (ofE ent l)).2 = 0 then
    if (mergeL (p.go (ofE ent l)).1).2 = 0 then
      if (mergeL (p.go (ofE ent l)).1).1 = [] then (en0, 18)
      else if (chkN (enR ent who book p.day (mergeL (p.go (ofE ent l)).1).1)).2 = 0 then (enR ent who book p.day (mergeL (p.go (ofE ent l)).1).1, 0)
      else (en0, (chkN (enR ent who book p.day (mergeL (p.go (ofE ent l)).1).1)).2)
    else (en0, (mergeL (p.go (ofE ent l)).1).2)
  else (en0, (p.go (ofE ent l)).2)
end Go.SL

namespace Go.SL
open Go
def YC (P : Program) (l : Nat) (args : Array Value) (A B Bx : HP) : Prop := ∀ (w : World) (h : Hp), A h → h.sub w → ∃ fn tmps asn bo, (Instr.yield l args).run P w = .ok (.round l fn tmps asn bo) w ∧
  RoundIn Fence.wide 0 P l fn tmps asn bo w fun e w' => (e = .returned (.bool true) ∧ Has ⟨w, h⟩ B w') ∨ (e = .returned (.bool false) ∧ Has ⟨w, h⟩ Bx w')
theorem Has.beside {β : Base} {w w' : World} {h1 h2 : Hp} {F B : HP} (hd : Hp.disj h1 h2) (hsub : (Hp.add h1 h2).sub w) (hown : ∀ b, Hp.add h1 h2 b ≠ none → β.h b ≠ none ∨ β.w.heap.size ≤ b) (hr : Rest β w) (hF : F h2) (hh : Has ⟨w, h1⟩ B w') : Has β (star B F) w' := by
  obtain ⟨⟨h3, hQ, hsub3, hown3⟩, hr3⟩ := hh
  have hsub2 := Hp.sub_right hd hsub
  have hd3 : Hp.disj h3 h2 := fun b => by
    cases h2b : h2 b with
    | none => exact .inr rfl
    | some o =>
      refine .inl ?_
      cases h3b : h3 b with
      | none => rfl
      | some o' =>
        exfalso
        have hlt : b < w.heap.size := Hp.sub_lt hsub2 (by simp [h2b])
        rcases hown3 b (by simp [h3b]) with h | h
        · rcases hd b with h' | h'
          · exact h h'
          · rw [h2b] at h'; cases h'
        · simp only at h; omega
  refine ⟨⟨_, ⟨h3, h2, hd3, rfl, hQ, hF⟩, fun b o hb => ?_, fun b hb => ?_⟩, ?_⟩
  · simp only [Hp.add] at hb
    cases h3b : h3 b with
    | some o' => rw [h3b] at hb; simp at hb; subst hb; exact hsub3 b _ h3b
    | none =>
      rw [h3b] at hb
      simp only at hb
      have hw := hsub2 b o hb
      have hlt := (Array.getElem?_eq_some_iff.1 hw).1
      rw [hr3.frame b hlt (by rcases hd b with h | h; exact h; rw [hb] at h; cases h)]
      exact hw
  · simp only [Hp.add] at hb
    cases h3b : h3 b with
    | some o' =>
      rcases hown3 b (by simp [h3b]) with h | h
      · refine hown b ?_
        simp only [Hp.add]
        cases h1b : h1 b with
        | none => exact absurd h1b h
        | some _ => simp
      · exact .inr (Nat.le_trans hr.size h)
    | none =>
      rw [h3b] at hb
      simp only at hb
      refine hown b ?_
      simp only [Hp.add]
      cases h1b : h1 b with
      | none => exact hb
      | some _ => simp
  · refine hr.of_heap (fun b hb hn hbs => hr3.frame b hb ?_) hr3.size hr3.os hr3.tape hr3.output
    simp only
    cases h1b : h1 b with
    | none => rfl
    | some o =>
      rcases hown b (by simp [Hp.add, h1b]) with h | h
      · exact absurd hn h
      · omega
theorem YC.frame {P : Program} {l : Nat} {args : Array Value} {A B Bx F : HP} {β : Base} {w : World} (h : YC P l args A B Bx) (hs : Has β (star A F) w) : ∃ fn tmps asn bo, (Instr.yield l args).run P w = .ok (.round l fn tmps asn bo) w ∧
    RoundIn Fence.wide 0 P l fn tmps asn bo w fun e w' => (e = .returned (.bool true) ∧ Has β (star B F) w') ∨ (e = .returned (.bool false) ∧ Has β (star Bx F) w') := by
  obtain ⟨⟨h0, ⟨h1, h2, hd, rfl, hA, hF⟩, hsub, hown⟩, hr⟩ := hs
  obtain ⟨fn, tmps, asn, bo, hy, hR⟩ := h w h1 hA (Hp.sub_left hsub)
  exact ⟨fn, tmps, asn, bo, hy, hR.mono fun e w' he => he.imp (fun h => ⟨h.1, Has.beside hd hsub hown hr hF h.2⟩) fun h => ⟨h.1, Has.beside hd hsub hown hr hF h.2⟩⟩
section
variable {P : Program} {β : Base} {n : Nat} {arr : Array Oper} {os : List Oper} {E : Env} {L M : List HP} {K : Env → List HP → Prop} {A B Bx : HP} {l : Nat} {x : Operand} {xs : List Operand} {vs : List Value} {ats : Array TypeId} {d : Option Tmp} {ty : TypeId} {pos : String} {af : Array Edge}
theorem round_of (hc : E.ev x = some (.func (.yield l) #[] #[])) (hxs : E.evs xs = some vs) (hY : YC P l ⟨vs⟩ A B Bx) (p : Pick L A M) {g : Option (Nat × Bool)} {a : Act} {w : World} (ha : EOk E a) (hs : Sat β L w) {next : Act → World → Prop}
    (hn : ∀ (b : Bool) w', Sat β ((if b then B else Bx) :: M) w' → next (a.put d (.bool b)) w') : roundC P ⟨d, .call ⟨.value x, ⟨xs⟩, ats⟩, ty, pos, af, g⟩ a w next := by
  obtain ⟨fn, tmps, asn, bo, hy, hR⟩ := hY.frame (Has.mono hs fun _ => p.star)
  have hargs : Array.map a.eval ⟨xs⟩ = ⟨vs⟩ := by rw [List.map_toArray, ha.evs hxs]
  refine ⟨l, fn, tmps, asn, bo, w, by simp [execOp, resolve, ha.ev hc, Deferred.ofValue, hargs, invoke, hy], hR.mono fun e w' he => ?_⟩
  rcases he with ⟨rfl, h⟩ | ⟨rfl, h⟩
  · exact ⟨_, rfl, hn true w' h⟩
  · exact ⟨_, rfl, hn false w' h⟩
theorem RunL.yield (hd : dstOk n d = true) (hc : E.ev x = some (.func (.yield l) #[] #[])) (hxs : E.evs xs = some vs) (hY : YC P l ⟨vs⟩ A B Bx) (p : Pick L A M)
    (ht : RunL P β n arr os (E.put d (.bool true)) (B :: M) K) (hf : RunL P β n arr os (E.put d (.bool false)) (Bx :: M) K) : RunL P β n arr (⟨d, .call ⟨.value x, ⟨xs⟩, ats⟩, ty, pos, af, none⟩ :: os) E L K := by
  have h : ∀ b : Bool, RunL P β n arr os (E.put d (.bool b)) ((if b then B else Bx) :: M) K := fun b => by cases b <;> assumption
  intro a w ha hs Q hQ
  have hw : Region.wanted ⟨d, .call ⟨.value x, ⟨xs⟩, ats⟩, ty, pos, af, none⟩ (yielded arr a.tmps) = true := by simp [Region.wanted]
  simp only [wpSeq, hw, if_true]
  exact .inr (round_of hc hxs hY p ha.env hs fun b w' hs' => h b (a.put d _) w' (ha.put (dstOk_spec hd) _) hs' Q hQ)
theorem RunL.yieldG {j : Nat} {gb : Bool} {gd : Tmp} (hd : dstOk n d = true) (hj : (arr[j]?).bind (·.dst) = some gd) (hgb : E.get gd = some (.bool gb)) (hc : E.ev x = some (.func (.yield l) #[] #[])) (hxs : E.evs xs = some vs) (hY : YC P l ⟨vs⟩ A B Bx) (p : Pick L A M)
    (ht : RunL P β n arr os (E.put d (.bool true)) (B :: M) K) (hf : RunL P β n arr os (E.put d (.bool false)) (Bx :: M) K) : RunL P β n arr (⟨d, .call ⟨.value x, ⟨xs⟩, ats⟩, ty, pos, af, some (j, gb)⟩ :: os) E L K := by
  have h : ∀ b : Bool, RunL P β n arr os (E.put d (.bool b)) ((if b then B else Bx) :: M) K := fun b => by cases b <;> assumption
  intro a w ha hs Q hQ
  have hw : Region.wanted ⟨d, .call ⟨.value x, ⟨xs⟩, ats⟩, ty, pos, af, some (j, gb)⟩ (yielded arr a.tmps) = true := by simp [Region.wanted, yielded_of ha hj hgb]
  simp only [wpSeq, hw, if_true]
  exact .inr (round_of hc hxs hY p ha.env hs fun b w' hs' => h b (a.put d _) w' (ha.put (dstOk_spec hd) _) hs' Q hQ)
end
def ItC (P : Program) (f : FuncId) (lb : Array Value) (N : Nat) (enc : Nat → Value) (A : HP) (Ok : HP → Prop) : Prop :=
  ∀ (l : Nat) (J : Nat → HP) (Jx : HP), (∀ i, Ok (J i)) → (∀ i, i < N → YC P l #[enc i] (J i) (J (i + 1)) Jx) →
    AC P f (#[.func (.yield l) #[] #[]] ++ lb) (star A (J 0)) fun _ h => star A (J N) h ∨ ∃ A', star A' Jx h
@[reducible] def retPo (Q : Po) : Po
  | .ret, E, L => Q .ret E L
  | _, _, _ => False
@[reducible] def roundPo (I : List HP → Prop) (Q : Po) (E : Env) : Po
  | .normal, _, L => I L
  | .ret, _, L => Q .ret E L
  | _, _, _ => False
section
variable {P : Program} {β : Base} {n : Nat} {E : Env} {L M : List HP} {Q : Po}
theorem AOk.round {a : Act} {p : Tmp} {v : Value} (ha : AOk n E a) (hp : Nat.blt p n = Bool.true) : AOk n ((p, v) :: E) { tmps := a.tmps.setIfInBounds p v, defers := [] } := by
  have h := ha.put (d := some p) (fun t e => by cases e; simpa [Nat.blt_eq] using hp) v
  exact ⟨h.size, h.env, rfl⟩
theorem Has.back {β : Base} {w : World} {A F : HP} (hs : Has β (star A F) w) : ∃ h1, A h1 ∧ h1.sub w ∧ ∀ {B : HP} {w' : World}, Has ⟨w, h1⟩ B w' → Has β (star B F) w' := by
  obtain ⟨⟨h0, ⟨h1, h2, hd, rfl, hA, hF⟩, hsub, hown⟩, hr⟩ := hs
  exact ⟨h1, hA, Hp.sub_left hsub, fun hh => Has.beside hd hsub hown hr hF hh⟩
theorem Has.at {β : Base} {w : World} {b : Nat} {o : Obj} {F : HP} (hs : Has β (star (pt b o) F) w) : w.heap[b]? = some o := Sat.heap (L := [pt b o, F]) (Has.mono hs fun h hh => star_mono (fun _ => id) (fun h2 hF => (⟨h2, fun _ => none, fun b => .inr rfl, by funext b; simp [Hp.add]; cases h2 b <;> rfl, hF, fun _ => rfl⟩ : star F emp h2)) hh) .here
theorem Has.put {β : Base} {w : World} {b : Nat} {o o' : Obj} {F : HP} (hs : Has β (star (pt b o) F) w) : Has β (star (pt b o') F) (w.putObj b o') := Has.setObj hs rfl rfl rfl rfl
theorem stars_drop {As L : List HP} : ∀ h, stars (As ++ L) h → star (stars As) (stars L) h := by
  induction As with
  | nil => exact fun h hs => ⟨fun _ => none, h, fun _ => .inl rfl, by funext b; simp [Hp.add], fun _ => rfl, hs⟩
  | cons A As ih => exact fun h hs => star_assoc (star_mono (fun _ => id) ih hs)
theorem stars_ins {B : HP} : ∀ {As L : List HP} {h : Hp}, star (stars (As ++ L)) B h → stars (As ++ B :: L) h
  | [], _, _, h => star_comm h
  | _ :: As, _, _, h => star_mono (fun _ => id) (fun _ h => stars_ins h) (star_assoc' h)
abbrev rcd (fn : FuncId) (tmps : Array Value) (p : Tmp) (asn bo : Code) (D : Nat) (st : LoopState) (pe : Option Code) : Loop := { state := st, pending := pe, fn, tmps, params := #[p], assign := asn, body := bo, defers := D }
def RngJ (P : Program) (β : Base) (n : Nat) (c tail : Code) (E : Env) (L : List HP) (Q : Po) : Prop := ∀ a w, AOk n E a → Sat β L w → ∀ ds, fitC false (.seq c tail) = true → c.wpIn (Wr none) 0 P (Exit.then (tail.wpIn (Wr none) 0 P (postX β n ds Q)) (postX β n ds Q)) { a with defers := ds } w
theorem rangeS {x c tail : Code} (hr : (match c with | .block _ (.rangeFunc ..) => Bool.true | _ => Bool.false) = Bool.true) (h : Run P β n x E L (thenPo (fun E' L' => RngJ P β n c tail E' L' Q) Q)) : Run P β n (.seq (.seq x c) tail) E L Q := fun a w ha hs r ds hf => by
  have h1 := fit_two hf
  have h2 := fit_two h1.1
  obtain rfl : r = none := by
    cases r with
    | none => rfl
    | some l =>
      have h1 := h2.2
      split at hr
      · simp [fitC] at h1
      · cases hr
  refine wpIn_seq (wpIn_seq (wpIn_mono (h a w ha hs none ds h2.1) ?_))
  rintro e a' w' hp
  cases e with
  | normal =>
    obtain ⟨E', L', a0, hQ, ha', rfl, hs'⟩ := hp.not (by simp)
    exact hQ a0 w' ha' hs' ds (by show (fitC (none : Option Nat).isSome c && fitC (none : Option Nat).isSome tail) = _; rw [h2.2, h1.2]; rfl)
  | _ => exact hp
theorem rangeC {bid : Nat} {g : Operand} {p : Tmp} {asn bo tail : Code} {f : FuncId} {lb : List Value} {N : Nat} {enc : Nat → Value} {A : HP} {Ok : HP → Prop} (I : Nat → List HP → Prop) (hg : E.ev g = some (.func (.func f) #[] ⟨lb⟩)) (C : CI P f) (hit : ItC P f ⟨lb⟩ N enc A Ok)
    (hp : Nat.blt p n = true) (h0 : I 0 M) (hok : ∀ J : HP, (∀ h, J h → ∃ i L B D, I i L ∧ star B (star D (stars L)) h) → Ok J)
    (hbody : ∀ β i L, I i L → i < N → Run P β n asn ((p, enc i) :: E) L fun e E' L' => e = .normal ∧ ∀ β, Run P β n bo E' L' (roundPo (I (i + 1)) Q E))
    (htail : ∀ β L, I N L → Run P β n tail E (A :: L) (retPo Q)) (tk : Gives L (A :: M)) : RngJ P β n (.block bid (.rangeFunc g #[p] asn bo)) tail E L Q := by
  intro a w ha hs ds hf
  simp only [fitC, Bool.and_eq_true, Bool.not_eq_true'] at hf
  obtain ⟨⟨⟨_, hfa⟩, hfb⟩, hft⟩ := hf
  refine wpIn_block (wpIn_rangeFunc fun fn _ => ?_)
  obtain ⟨D, hD⟩ : ∃ D, D = w.heap.size := ⟨_, rfl⟩
  obtain ⟨l, hl⟩ : ∃ l, l = w.heap.size + 1 := ⟨_, rfl⟩
  obtain ⟨W1, hW1⟩ : ∃ W1, (w.alloc (.deferred (some []))).alloc (.loop (rcd fn a.tmps p asn bo w.heap.size .ready none)) = W1 := ⟨_, rfl⟩
  have hs1 : Has β (star (pt l (.loop (rcd fn a.tmps p asn bo w.heap.size .ready none))) (star (pt D (.deferred (some []))) (star A (stars M)))) W1 := by
    have h1 := Has.alloc (Has.alloc (hs.gives tk) (.deferred (some []))) (.loop (rcd fn a.tmps p asn bo w.heap.size .ready none))
    rw [hW1, World.size_alloc, ← hD] at h1
    rw [hl, ← hD]; exact h1
  let LP : LoopState → Option Code → HP := fun st pe => pt l (.loop (rcd fn a.tmps p asn bo w.heap.size st pe))
  let DP : HP := pt D (.deferred (some []))
  let J : Nat → HP := fun i h => ∃ L, I i L ∧ star (LP .ready none) (star DP (stars L)) h
  let Jx : HP := fun h => ∃ L, Q .ret E L ∧ star (LP .done (some .ret)) (star DP (stars L)) h
  obtain ⟨fn', hf', hname, hbod⟩ := C.fn
  have hname' : ¬ fn'.name = "runtime.NumGoroutine" := by simpa using hname
  have hbody' : ¬ fn'.body = none := fun e => by simp [e] at hbod
  refine ⟨l, [{ target := .collected D, args := #[] }], W1, { target := .fn (.func f) ⟨lb⟩, args := #[.func (.yield l) #[] #[]] }, W1, f, #[.func (.yield l) #[] #[]] ++ ⟨lb⟩, W1, ?_, ?_, fun _ _ => trivial, ?_, fun h => (by cases h), ?_⟩
  · rw [hl, hD, ← hW1]; exact run_enterLoop_outer _ _ _ _ _
  · have he : ({ a with defers := ds } : Act).eval g = .func (.func f) #[] ⟨lb⟩ := by rw [evalD]; exact ha.env.ev hg
    simp only [resolve, rangeCall, he, Deferred.ofValue]
    simp [go_sem]
  · simp [invoke, callFunc, hf', hname', hbody']
  · refine (callsIn_wide.2 ?_ : CallsIn Fence.wide _ P f _ W1 _)
    have hY : ∀ i, i < N → YC P l #[enc i] (J i) (J (i + 1)) Jx := by
      intro i hi W h hJ hsub
      obtain ⟨L', hI, hh⟩ := hJ
      have hB : Has ⟨W, h⟩ (star (LP .ready none) (star DP (stars L'))) W := Has.self hh hsub
      have hy := run_yield (P := P) (args := #[enc i]) (Has.at hB) rfl
      have hz : ((#[p] : Array Tmp).zip #[enc i]).foldl (fun tmps (t, a) => tmps.setIfInBounds t a) a.tmps = a.tmps.setIfInBounds p (enc i) := by simp
      simp only [hz] at hy
      refine ⟨fn, _, asn, bo, hy, roundIn_of_wpIn (F := Fence.wide) trivial ?_⟩
      have hB2 : Has ⟨W, h⟩ (star (stars L') (star (LP .ready none) DP)) W := hB.mono fun _ h => star_comm (star_assoc h)
      obtain ⟨h1, hA1, hsub1, back1⟩ := Has.back hB2
      have hrun := hbody ⟨W, h1⟩ i L' hI hi _ W (AOk.round ha hp) (Has.self hA1 hsub1) (some l) [] hfa
      refine wpIn_mono (F := Fence.wide.inRound l) hrun ?_
      rintro e a' W' ⟨E', L2, ms, a0, hm, ⟨he, hrb⟩, hA0, rfl, hS⟩
      subst he
      obtain rfl : ms = [] := hm.resolve_left (by simp)
      have hB3 : Has ⟨W, h⟩ (star (LP .ready none) (star DP (stars L2))) W' := (back1 hS).mono fun _ h => star_assoc' (star_comm h)
      have hb := run_beginRound (P := P) (Has.at hB3) rfl
      refine ⟨_, hb, ?_⟩
      have hB4 : Has ⟨W, h⟩ (star (pt l (.loop (rcd fn a.tmps p asn bo w.heap.size .busy none))) (star DP (stars L2))) (W'.putObj l (.loop (rcd fn a.tmps p asn bo w.heap.size .busy none))) := Has.put hB3
      obtain ⟨h2, hA2, hsub2, back2⟩ := Has.back (hB4.mono fun _ h => star_comm (star_assoc h))
      have hrun2 := hrb ⟨_, h2⟩ a0 _ hA0 (Has.self hA2 hsub2) (some l) [] hfb
      refine wpIn_mono (F := Fence.wide.inRound l) hrun2 ?_
      rintro e a3 W3 ⟨E3, L3, ms3, a30, hm3, hQ3, hA3, rfl, hS3⟩
      have hB5 : Has ⟨W, h⟩ (star (pt l (.loop (rcd fn a.tmps p asn bo w.heap.size .busy none))) (star DP (stars L3))) W3 := (back2 (Has.right (Has.mono hS3 fun _ h => stars_drop _ h))).mono fun _ h => star_assoc' (star_comm h)
      cases e with
      | normal =>
        have hr := run_endRound (P := P) none (Has.at hB5)
        refine ⟨_, _, hr, .inl ⟨rfl, ?_⟩⟩
        have := Has.put (o' := .loop (rcd fn a.tmps p asn bo w.heap.size .ready none)) hB5
        exact this.mono fun _ h => ⟨L3, hQ3, h⟩
      | ret =>
        have hr := run_endRound (P := P) (some .ret) (Has.at hB5)
        refine ⟨_, _, hr, .inr ⟨rfl, ?_⟩⟩
        have := Has.put (o' := .loop (rcd fn a.tmps p asn bo w.heap.size .done (some .ret))) hB5
        exact this.mono fun _ h => ⟨L3, hQ3, h⟩
      | exit _ => exact hQ3.elim
      | goto _ => exact hQ3.elim
      | panic _ => exact hQ3.elim
      | outgrown => exact hQ3.elim
    have hJok : ∀ i, Ok (J i) := fun i => hok _ fun h ⟨L, hI, hh⟩ => ⟨i, L, _, _, hI, hh⟩
    have hs2 : Has β (star (star A (J 0)) emp) W1 := hs1.mono fun h hh => by
      have h1 : star (star A (star (LP .ready none) (star DP (stars M)))) emp h := star_comm ⟨fun _ => none, h, fun _ => .inl rfl, by funext b; simp [Hp.add], fun _ => rfl, star_left (star_mono (fun _ => id) (fun _ h => star_left h) (hh : star (LP .ready none) (star DP (star A (stars M))) h))⟩
      exact star_mono (fun _ => star_mono (fun _ => id) fun _ h => ⟨M, h0, h⟩) (fun _ => id) h1
    refine (AC.frame (hit l J Jx hJok hY) hs2).mono ?_
    rintro e W2 ⟨v, rfl, hh⟩
    have hh2 : (∃ L', I N L' ∧ Has β (star (LP .ready none) (star DP (star A (stars L')))) W2) ∨ (∃ L', Q .ret E L' ∧ Has β (star (LP .done (some .ret)) (star DP (stars L'))) W2) := by
      obtain ⟨⟨h0, ⟨h1, h2, hd, rfl, hP, hE⟩, hsub, hown⟩, hr⟩ := hh
      have e0 : Hp.add h1 h2 = h1 := Hp.add_none' hE
      rw [e0] at hsub hown
      rcases hP with hP | ⟨A', hP⟩
      · obtain ⟨x1, x2, hxd, rfl, hA, L', hI, hx⟩ := hP
        refine .inl ⟨L', hI, ⟨_, ?_, hsub, hown⟩, hr⟩
        have h3 : star A (star (LP .ready none) (star DP (stars L'))) _ := ⟨x1, x2, hxd, rfl, hA, hx⟩
        exact star_mono (fun _ => id) (fun _ h => star_left h) (star_left h3)
      · obtain ⟨x1, x2, hxd, rfl, hA, L', hI, hx⟩ := hP
        refine .inr ⟨L', hI, ?_⟩
        exact Has.right (A := A') ⟨⟨_, ⟨x1, x2, hxd, rfl, hA, hx⟩, hsub, hown⟩, hr⟩
    rcases hh2 with ⟨L', hI, hB⟩ | ⟨L', hQ, hB⟩
    · have he := run_endLoop (P := P) (Has.at hB) (by simp)
      refine ⟨_, _, he, ?_⟩
      have hB2 : Has β (star DP (star A (stars L'))) (W2.putObj l (.loop (rcd fn a.tmps p asn bo w.heap.size .exhausted none))) := Has.right (Has.put hB)
      obtain ⟨h2, hA2, hsub2, back2⟩ := Has.back (hB2.mono fun _ h => star_comm h)
      have hrun := htail ⟨_, h2⟩ L' hI a _ ha (Has.self hA2 hsub2) none ({ target := .collected D, args := #[] } :: ds) hft
      show tail.wpIn _ _ _ _ _ _
      refine wpIn_mono hrun ?_
      rintro e a3 W3 ⟨E3, L3, ms3, a30, hm3, hQ3, hA3, rfl, hS3⟩
      cases e with
      | ret =>
        refine ⟨E3, L3, ms3 ++ [D], a30, .inl rfl, hQ3, hA3, by simp [mksD], ?_⟩
        exact (back2 hS3).mono fun _ h => by rw [dpsD, List.map_append, List.append_assoc]; exact stars_ins h
      | normal => exact hQ3.elim
      | exit _ => exact hQ3.elim
      | goto _ => exact hQ3.elim
      | panic _ => exact hQ3.elim
      | outgrown => exact hQ3.elim
    · have he := run_endLoop (P := P) (Has.at hB) (by simp)
      refine ⟨_, _, he, ?_⟩
      refine wpIn_ret ?_
      exact ⟨E, L', [D], a, .inl rfl, hQ, ha, rfl, by have := Has.right (Has.put (o' := .loop (rcd fn a.tmps p asn bo w.heap.size .exhausted (some .ret))) hB); exact this⟩
end
section
variable {P : Program} {β : Base} {n : Nat} {E : Env} {L L2 M : List HP} {Q : Po} {R : HP} {oa : Option Addr} {cs : List Value}
theorem Run.exitTo {bid : Nat} (L2 : List HP) (h : Q (.exit bid) E L2) (hl : Gives L L2) : Run P β n (.exit bid) E L Q := Run.weak (fun _ _ h => h) hl (Run.exit h)
theorem RdS.pick (p : Pick L R M) (h : RdS R oa cs) : RdS (stars L) oa cs := by
  induction p with
  | here => exact RdS.inl h
  | there _ ih => exact RdS.inr (ih h)
theorem RdS.of {J : HP} (H : ∀ h, J h → ∃ A : HP, A h ∧ RdS A oa cs) : RdS J oa cs := fun h hj => by obtain ⟨A, hA, hr⟩ := H h hj; exact hr h hA
theorem stars_one {A : HP} {h : Hp} (hh : A h) : stars [A] h := ⟨h, fun _ => none, fun b => .inr rfl, by funext b; simp [Hp.add]; cases h b <;> rfl, hh, fun _ => rfl⟩
theorem stars_last {As : List HP} {A : HP} : ∀ h, star (stars As) A h → stars (As ++ [A]) h := fun h hh => stars_append (star_mono (fun _ => id) (fun _ => stars_one) hh)
theorem stars_unlast {As : List HP} {A : HP} : ∀ h, stars (As ++ [A]) h → star (stars As) A h := fun h hh => star_mono (fun _ => id) (fun h2 h3 => by
  obtain ⟨x1, x2, _, rfl, hA, he⟩ := h3
  rw [Hp.add_none' he]; exact hA) (stars_drop h hh)
theorem ItC.of {f : FuncId} {lb : List Value} {N : Nat} {enc : Nat → Value} {As : List HP} {Ok : HP → Prop} {v : Value}
    (hw : ∀ (l : Nat) (J : Nat → HP) (Jx : HP), (∀ i, Ok (J i)) → (∀ i, i < N → YC P l #[enc i] (J i) (J (i + 1)) Jx) → AC P f ⟨.func (.yield l) #[] #[] :: lb⟩ (stars (As ++ [J 0])) (Outs (fun _ : Bool => True) (fun _ => v) fun d => As ++ [if d then J N else Jx])) : ItC P f ⟨lb⟩ N enc (stars As) Ok := fun l J Jx hJ hY => by
  have e : (#[Value.func (Fn.yield l) #[] #[]] ++ (⟨lb⟩ : Array Value)) = ⟨.func (.yield l) #[] #[] :: lb⟩ := by simp
  rw [e]
  exact AC.mono (hw l J Jx hJ hY) stars_last fun r h hh => by
    obtain ⟨d, _, hs⟩ := hh
    have := stars_unlast h hs
    cases d
    · exact .inr ⟨_, this⟩
    · exact .inl this
end
end Go.SL

namespace Go.SL
open Go
def selE (all : Bool) (ent : ByteArray) (xs : List Cl) : List Cl := xs.filter fun x => all || decide (x.k.ent = ent)
def cntE (all : Bool) (ent : ByteArray) (xs : List Cl) (i : Nat) : Nat := (selE all ent (xs.take i)).length
theorem sel_at {all : Bool} {ent : ByteArray} {xs : List Cl} {i : Nat} {x : Cl} (hx : xs[i]? = some x) (h : (all || decide (x.k.ent = ent)) = true) : (selE all ent xs)[cntE all ent xs i]? = some x ∧ cntE all ent xs (i + 1) = cntE all ent xs i + 1 := by
  have h1 : selE all ent (xs.take (i + 1)) = selE all ent (xs.take i) ++ [x] := by unfold selE; rw [take_step hx, List.filter_append]; simp [h]
  constructor
  · have h2 : selE all ent xs = selE all ent (xs.take (i + 1)) ++ selE all ent (xs.drop (i + 1)) := by unfold selE; rw [← List.filter_append, List.take_append_drop]
    unfold cntE
    rw [h2, h1, List.append_assoc, List.getElem?_append_right (Nat.le_refl _)]; simp
  · unfold cntE; rw [h1]; simp
theorem sel_skip {all : Bool} {ent : ByteArray} {xs : List Cl} {i : Nat} {x : Cl} (hx : xs[i]? = some x) (h : (all || decide (x.k.ent = ent)) = false) : cntE all ent xs (i + 1) = cntE all ent xs i := by
  unfold cntE selE; rw [take_step hx, List.filter_append]; simp [h]
theorem cnt_all {all : Bool} {ent : ByteArray} {xs : List Cl} : cntE all ent xs xs.length = (selE all ent xs).length := by unfold cntE; rw [List.take_length]
def encC (ys : List Cl) (i : Nat) : Value := match ys[i]? with | some x => .agg ⟨x.c⟩ | none => undef
theorem encC_at {ys : List Cl} {i : Nat} {x : Cl} (h : ys[i]? = some x) : encC ys i = .agg ⟨x.c⟩ := by unfold encC; rw [h]
theorem sel_ent {ent : ByteArray} {xs : List Cl} : selE false ent xs = ofE ent xs := by unfold selE ofE; simp
def nzB (x : Ln) : Bool := !decide (x.base = 0)
theorem nz_step {more : List Ln} {i : Nat} {x : Ln} (h : more[i]? = some x) : (more.take (i + 1)).filter nzB = (more.take i).filter nzB ++ (if nzB x = true then [x] else []) := by
  rw [take_step h, List.filter_append]; cases hb : nzB x <;> simp [hb]
theorem nz_none {a b c e f g h : ByteArray} {d : Int} {ta : Option Addr} {tc : Nat} {ts : List Tg} (hd : d = 0) : List.filter nzB [⟨a, b, 0, d, c, e, ta, tc, ts⟩, ⟨f, b, 0, -d, g, h, none, 0, []⟩] = [] := by subst hd; rfl
theorem nz_both {a b c e f g h : ByteArray} {d : Int} {ta : Option Addr} {tc : Nat} {ts : List Tg} (hd : ¬ d = 0) : List.filter nzB [⟨a, b, 0, d, c, e, ta, tc, ts⟩, ⟨f, b, 0, -d, g, h, none, 0, []⟩] = [⟨a, b, 0, d, c, e, ta, tc, ts⟩, ⟨f, b, 0, -d, g, h, none, 0, []⟩] := by
  have h2 : ¬ -d = 0 := by omega
  simp [nzB, hd, h2]
structure ClSz (x : Cl) : Prop where
  amt : i64 x.amt
  base : -1000000000000000 ≤ x.base ∧ x.base ≤ 1000000000000000
  tags : x.k.tags.size < 9223372036854775808
  cur : (x.k.cur.size : Int) ≤ 9223372036854775807
structure ClQ (x : Cl) : Prop where
  amt : i64 x.amt
  base : i64 x.base
  tags : x.k.tags.size < 9223372036854775808
  cur : (x.k.cur.size : Int) ≤ 9223372036854775807
theorem ClQ.sz {xs : List Cl} (h : ∀ x ∈ xs, ClQ x) (hs : shB xs = true) : ∀ x ∈ xs, ClSz x := fun x hx => by
  obtain ⟨i, hi⟩ := List.getElem?_of_mem hx
  have h1 := (shB_at.1 hs i x hi).1
  unfold celB withinB at h1
  simp only [Bool.and_eq_true, decide_eq_true_eq] at h1
  have h2 := h x hx
  exact ⟨h2.amt, h1.2, h2.tags, h2.cur⟩
end Go.SL

namespace Go.SL
open Go
section
variable {P : Program} {β : Base} {E : Env} {L L' M : List HP} {K : Value → List HP → Prop} {d : Option Tmp} {ty : TypeId} {pos : String} {af : Array Edge} {g : Option (Nat × Bool)} {x y : Operand} {t t' e : TypeId}
theorem OpJ.sliceArrLo {n b i : Nat} {oh : Operand} (I : AI P t e n) (hx : E.ev x = some (.pointer (some ⟨b, 0, none⟩))) (hh : E.ev oh = some (.int .i64 (i : Int))) (hi : i < n)
    (h : K (.slice (some ⟨b, i, none⟩) (n - i) (n - i)) L) : OpJ P β E L ⟨d, .slice t x (some oh) none none, ty, pos, af, g⟩ K :=
  OpJ.same (fun a w ha _ => by
    have hs : (sizeOf e).run P w = .ok 1 w := by
      obtain ⟨j, hj, hz⟩ := I.one.size
      simp [sizeOf, typeInfo, hj, hz]
    simp only [execOp, Option.map_none, Option.map_some, ha.ev hx, ha.ev hh, Instr.sliceAt]
    have h1 : ¬ n = i := by omega
    have h2 : ((i : Int) ≤ (n : Int)) := by omega
    simp [run_underlying I.under, Instr.sureAddr, Instr.sliceBounds, Instr.sliceBound, asIntOf, h2, hs, h1, Addr.add]
    rw [if_pos (show i ≤ n by omega)]
    by_cases h0 : i = 0 <;> simp [h0]) h
theorem OpJ.bytesStr {R : HP} {b o n c : Nat} {xs : List Int} (hs : P.underlying t = some (.slice e)) (he : P.underlying e = some (.int .u8)) (hd : P.underlying t' = some .string) (hx : E.ev x = some (.slice (some ⟨b, o, none⟩) n c)) (p : Pick L R M)
    (hr : Rd R ⟨b, o, none⟩ (xs.map (Value.int .u8))) (hn : xs.length = n) (h : K (.string (strOfNums xs)) L) : OpJ P β E L ⟨d, .convert t t' x, ty, pos, af, g⟩ K :=
  OpJ.same (fun a w ha hsat => by
    have hc := hsat.rd p hr
    have hrun := run_convert_bytes_arg w t e hs he b o n c xs hn (fun i hi => by
      have := hc i (.int .u8 (xs.getD i 0)) (by rw [List.getElem?_map, List.getElem?_eq_getElem (by omega)]; simp [List.getD, List.getElem?_eq_getElem (show i < xs.length by omega)])
      rwa [Addr.add_eq rfl] at this) t' hd
    simp [execOp, ha.ev hx, hrun]) h
end
abbrev encK (k : Ky) : Value := .agg ⟨k.c⟩
theorem kaK {P : Program} {t : TypeId} (ki : keyInfo P t = some [(0, false), (1, false), (2, false), (3, false), (4, false)]) (ei : EI P t [.str, .str, .str, .str, .str]) : KeyAgg P t encK where
  check := fun em n a w => by
    obtain ⟨fs, hu, hp⟩ := keyInfo_spec ki
    refine run_checkAgg hu hp (fun p hp => ?_) em n w
    simp only [List.mem_cons, List.not_mem_nil, or_false] at hp
    rcases hp with rfl | rfl | rfl | rfl | rfl
    · exact ⟨_, rfl, keyStr.isk a.ent⟩
    · exact ⟨_, rfl, keyStr.isk a.acc⟩
    · exact ⟨_, rfl, keyStr.isk a.cur⟩
    · exact ⟨_, rfl, keyStr.isk a.partner⟩
    · exact ⟨_, rfl, keyStr.isk a.tags⟩
  under := by obtain ⟨fs, hu, _⟩ := keyInfo_spec ki; exact ⟨fs, hu⟩
  eq := fun a c w => by
    rw [← key_dec]
    refine ei.run w _ _ _ (eqB_cells _ _ _ _ ?_)
    simp [Ky.c, eqB, eqCell]
  stays := fun a w => by simp [encK, Ky.c, Instr.keyThatStays, Instr.sameBits, str_beq]
end Go.SL

namespace Go.SL
open Go
def dgN (n : Nat) : List Int := if n < 10 then [48 + (n : Int)] else [48 + (n : Int) / 10, 48 + (n : Int) % 10]
def dgL (n : Nat) : List UInt8 := (dgN n).map fun n => UInt8.ofNat n.toNat
abbrev colon : ByteArray := ⟨#[58]⟩
def tgT (t : Tg) : ByteArray := strOfNums (dgN t.name.size) ++ colon ++ t.name ++ strOfNums (dgN t.value.size) ++ colon ++ t.value
def tagsT (ts : List Tg) : ByteArray := ts.foldl (fun s t => s ++ tgT t) bs0
def tgB (t : Tg) : List UInt8 := dgL t.name.size ++ 58 :: (t.name.data.toList ++ (dgL t.value.size ++ 58 :: t.value.data.toList))
theorem tgT_data (t : Tg) : (tgT t).data.toList = tgB t := by
  unfold tgT tgB
  simp only [app_data, strOfNums_data, List.append_assoc]; rfl
theorem tagsT_data (ts : List Tg) : (tagsT ts).data.toList = ts.flatMap tgB := by
  have key : ∀ (ts : List Tg) (s : ByteArray), (ts.foldl (fun s t => s ++ tgT t) s).data.toList = s.data.toList ++ ts.flatMap tgB := fun ts => by
    induction ts with
    | nil => intro s; simp
    | cons t ts ih => intro s; rw [List.foldl_cons, ih, app_data, tgT_data, List.flatMap_cons, List.append_assoc]
  rw [tagsT, key]; rfl
theorem tagsT_snoc {ts : List Tg} {i : Nat} {t : Tg} (h : ts[i]? = some t) : tagsT (ts.take (i + 1)) = tagsT (ts.take i) ++ tgT t := by
  unfold tagsT; rw [take_step h, List.foldl_append]; rfl
theorem dgL_all : ∀ n : Fin 100, (∀ x ∈ dgL n.1, x ≠ 58) := by with_unfolding_all decide
def dgV (l : List UInt8) : Nat := l.foldl (fun a x => a * 10 + (x.toNat - 48)) 0
theorem dgV_at : ∀ n : Fin 100, dgV (dgL n.1) = n.1 := by with_unfolding_all decide
theorem dgL_inj (n m : Fin 100) (h : dgL n.1 = dgL m.1) : n = m := Fin.ext (by rw [← dgV_at n, ← dgV_at m, h])
theorem dg_cut {n m : Nat} {r s : List UInt8} (hn : n < 100) (hm : m < 100) (h : dgL n ++ 58 :: r = dgL m ++ 58 :: s) : n = m ∧ r = s := by
  have h1 := cut1_hit (c := 58) (a := dgL n) (b := r) (dgL_all ⟨n, hn⟩)
  have h2 := cut1_hit (c := 58) (a := dgL m) (b := s) (dgL_all ⟨m, hm⟩)
  rw [h, h2] at h1
  simp only [Prod.mk.injEq, and_true] at h1
  have h3 := dgL_inj ⟨n, hn⟩ ⟨m, hm⟩ h1.1.symm
  exact ⟨congrArg Fin.val h3, h1.2.symm⟩
def tgS (t : Tg) : Prop := t.name.size < 100 ∧ t.value.size < 100
theorem tg_cut {t u : Tg} {r s : List UInt8} (ht : tgS t) (hu : tgS u) (h : tgB t ++ r = tgB u ++ s) : t = u ∧ r = s := by
  unfold tgB at h
  simp only [List.append_assoc, List.cons_append] at h
  obtain ⟨h1, h2⟩ := dg_cut ht.1 hu.1 h
  obtain ⟨h3, h4⟩ := List.append_inj h2 (show t.name.data.toList.length = u.name.data.toList.length from h1)
  obtain ⟨h5, h6⟩ := dg_cut ht.2 hu.2 h4
  obtain ⟨h7, h8⟩ := List.append_inj h6 (show t.value.data.toList.length = u.value.data.toList.length from h5)
  refine ⟨?_, h8⟩
  obtain ⟨⟨⟨a⟩⟩, ⟨⟨b⟩⟩⟩ := t
  obtain ⟨⟨⟨c⟩⟩, ⟨⟨d⟩⟩⟩ := u
  simp only at h3 h7
  rw [h3, h7]
theorem tags_inj : ∀ {xs ys : List Tg}, (∀ t ∈ xs, tgS t) → (∀ t ∈ ys, tgS t) → xs.flatMap tgB = ys.flatMap tgB → xs = ys
  | [], [], _, _, _ => rfl
  | [], y :: ys, _, _, h => by
    exfalso
    have := congrArg List.length h
    simp [tgB] at this
  | x :: xs, [], _, _, h => by
    exfalso
    have := congrArg List.length h
    simp [tgB] at this
  | x :: xs, y :: ys, hx, hy, h => by
    simp only [List.flatMap_cons] at h
    obtain ⟨rfl, h2⟩ := tg_cut (hx x (by simp)) (hy y (by simp)) h
    rw [tags_inj (fun t ht => hx t (by simp [ht])) (fun t ht => hy t (by simp [ht])) h2]
theorem tagsT_inj {xs ys : List Tg} (hx : ∀ t ∈ xs, tgS t) (hy : ∀ t ∈ ys, tgS t) : tagsT xs = tagsT ys ↔ xs = ys :=
  ⟨fun h => tags_inj hx hy (by rw [← tagsT_data, ← tagsT_data, h]), fun h => by rw [h]⟩
def keyL (l : Ln) : Ky := ⟨l.acc, l.cur, l.partner, l.party, tagsT l.tags⟩
def LnS (l : Ln) : Prop := ∀ t ∈ l.tags, tgS t
theorem al_key {a b : Ln} (ha : LnS a) (hb : LnS b) : alB a b = true ↔ keyL a = keyL b := by
  unfold alB keyL
  simp only [Bool.and_eq_true, decide_eq_true_eq, Ky.mk.injEq, tagsT_inj ha hb, and_assoc]
theorem grp_key {ls : List Ln} {y : Ln} (h : ∀ z ∈ ls, LnS z) (hy : LnS y) : grpL ls y = ofG keyL (keyL y) ls := by
  unfold grpL ofG
  refine List.filter_congr fun z hz => ?_
  rw [Bool.eq_iff_iff, al_key (h z hz) hy, decide_eq_true_eq]
def Seen (ks : List Ky) (ls : List Ln) : Prop := ∀ k, (kAt (fun k : Ky => k) k ks).isSome = true ↔ ∃ z ∈ ls, keyL z = k
theorem Seen.start : Seen [] [] := fun k => by simp [kAt]
theorem Seen.step {ks : List Ky} {ls : List Ln} {i : Nat} {y : Ln} (h : Seen ks (ls.take i)) (hy : ls[i]? = some y) : Seen (kSet (fun k : Ky => k) (keyL y) ks) (ls.take (i + 1)) := fun k => by
  rw [take_step hy]
  have hk := kAt_kSet (kf := fun k : Ky => k) (k := k) (y := keyL y) (xs := ks)
  by_cases e : keyL y = k
  · rw [if_pos e] at hk
    constructor
    · intro _; exact ⟨y, by simp, e⟩
    · intro _
      cases hq : kAt (fun k : Ky => k) k (kSet (fun k : Ky => k) (keyL y) ks) with
      | none => rw [hq] at hk; cases hk
      | some q => rfl
  · rw [if_neg e] at hk
    have e2 : (kAt (fun k : Ky => k) k (kSet (fun k : Ky => k) (keyL y) ks)).isSome = (kAt (fun k : Ky => k) k ks).isSome := by
      have := congrArg Option.isSome hk; simpa using this
    rw [e2, h k]
    constructor
    · rintro ⟨z, hz, h2⟩; exact ⟨z, by simp [hz], h2⟩
    · rintro ⟨z, hz, h2⟩
      rcases List.mem_append.1 hz with hz | hz
      · exact ⟨z, hz, h2⟩
      · rw [List.mem_singleton.1 hz] at h2; exact absurd h2 e
theorem Seen.any {ks : List Ky} {ls : List Ln} {y : Ln} (h : Seen ks ls) (hs : ∀ z ∈ ls, LnS z) (hy : LnS y) : (ls.any fun z => alB z y) = (kAt (fun k : Ky => k) (keyL y) ks).isSome := by
  rw [Bool.eq_iff_iff, h, List.any_eq_true]
  constructor
  · rintro ⟨z, hz, h2⟩; exact ⟨z, hz, (al_key (hs z hz) hy).1 h2⟩
  · rintro ⟨z, hz, h2⟩; exact ⟨z, hz, (al_key (hs z hz) hy).2 h2⟩
theorem col_fit {ks : List (Colg Ky)} {ls : List Ln} (h : KinvG keyL ks ls) (hs : ∀ z ∈ ls, LnS z) {y : Ln} {x : Colg Ky} (hx : x ∈ ks) (hy : LnS y) (hk : x.cur = keyL y) : x.xs = amts (grpL ls y) ∧ x.ys = bass (grpL ls y) := by
  obtain ⟨h1, h2⟩ := h.val x hx
  rw [grp_key hs hy, ← hk]; exact ⟨h1, h2⟩
theorem dg_sz (n : Nat) : (strOfNums (dgN n)).size ≤ 2 := by rw [strOfNums_size]; unfold dgN; split <;> simp
theorem tg_sz {t : Tg} (h : tgS t) : (tgT t).size ≤ 300 := by
  unfold tgT
  have h1 := dg_sz t.name.size
  have h2 := dg_sz t.value.size
  have h3 := h.1
  have h4 := h.2
  have h5 : colon.size = 1 := rfl
  simp only [ByteArray.size_append]
  omega
theorem tags_sz {ts : List Tg} (h : ∀ t ∈ ts, tgS t) : ∀ {i : Nat}, i ≤ ts.length → (tagsT (ts.take i)).size ≤ 300 * i
  | 0, _ => by show bs0.size ≤ 0; exact Nat.le_refl _
  | i + 1, hi => by
    have ht : ts[i]? = some ts[i] := List.getElem?_eq_getElem (by omega)
    rw [tagsT_snoc ht, ByteArray.size_append]
    have h1 := tags_sz h (i := i) (by omega)
    have h2 := tg_sz (h ts[i] (List.getElem_mem _))
    omega
theorem dgN_1 {n : Nat} (h : n < 10) : dgN n = [48 + (n : Int)] := if_pos h
theorem dgN_2 {n : Nat} (h : ¬ n < 10) : dgN n = [48 + (n : Int) / 10, 48 + (n : Int) % 10] := if_neg h
abbrev tc0 : List Value := List.replicate 20 (.int .u8 0)
abbrev tc1 (d : Int) : List Value := List.replicate 19 (.int .u8 0) ++ [.int .u8 d]
abbrev tc2 (c d : Int) : List Value := List.replicate 18 (.int .u8 0) ++ [.int .u8 c, .int .u8 d]
def tcN (n : Nat) : Nat → List Value
  | 0 => tc0
  | _ => tc1 (48 + (n : Int) % 10)
theorem rd_dig1 {b : Nat} {T : TypeId} {d : Int} : Rd (pt b (blk (tc1 d) T)) ⟨b, 19, none⟩ ([d].map (Value.int .u8)) := Rd.pt fun j v h => by
  match j, h with
  | 0, h => exact h
theorem rd_dig2 {b : Nat} {T : TypeId} {c d : Int} : Rd (pt b (blk (tc2 c d) T)) ⟨b, 18, none⟩ ([c, d].map (Value.int .u8)) := Rd.pt fun j v h => by
  match j, h with
  | 0, h => exact h
  | 1, h => exact h
abbrev ckF (p : Ky × Nat) : Value := encK p.1
theorem Seen.again {ks : List Ky} {ls : List Ln} {i : Nat} {y : Ln} (h : Seen ks (ls.take i)) (hy : ls[i]? = some y) (hk : (kAt (fun k : Ky => k) (keyL y) ks).isSome = true) : Seen ks (ls.take (i + 1)) := fun k => by
  rw [take_step hy, h k]
  constructor
  · rintro ⟨z, hz, e⟩; exact ⟨z, by simp [hz], e⟩
  · rintro ⟨z, hz, e⟩
    rcases List.mem_append.1 hz with hz | hz
    · exact ⟨z, hz, e⟩
    · rw [List.mem_singleton.1 hz] at e
      exact (h k).1 (by rw [← e]; exact hk)
theorem nz_some {ls : List Ln} {y : Ln} {xs ys : List Int} (hv : xs = amts (grpL ls y) ∧ ys = bass (grpL ls y)) (h : ¬ xs.sum = 0 ∨ ¬ ys.sum = 0) {ta : Option Addr} {tc : Nat} : nzL ls y = [(⟨y.acc, y.cur, xs.sum, ys.sum, y.partner, y.party, ta, tc, y.tags⟩ : Ln)].map Ln.e := by
  unfold nzL
  rw [← hv.1, ← hv.2, if_neg (by omega)]
  unfold sumLn
  rw [← hv.1, ← hv.2]; rfl
end Go.SL

namespace Go.SL
open Go
theorem far_out {n : Int} (h : largeB n = true) : withinB n = false := by unfold largeB at h; unfold withinB; simp at h ⊢; omega
theorem far_no {n : Int} (h : largeB n = false) : withinB n = true := by unfold largeB at h; unfold withinB; simp at h ⊢; omega
theorem cel_zero {x : Cl} (h : x.amt = 0) (h2 : x.base = 0) : celB x = false := by unfold celB; simp [h, h2]
theorem cel_fara {x : Cl} (h : largeB x.amt = true) : celB x = false := by unfold celB; simp [far_out h]
theorem cel_farb {x : Cl} (h : largeB x.base = true) : celB x = false := by unfold celB; simp [far_out h]
theorem cel_ok {x : Cl} (h0 : ¬ (x.amt = 0 ∧ x.base = 0)) (h : largeB x.amt = false) (h2 : largeB x.base = false) : celB x = true := by unfold celB; rw [far_no h, far_no h2, decide_eq_false h0]; rfl
theorem parse_right {s : ByteArray} {ts : List Tg} (h : parseT s = some ts) : rightB ts = true := by
  unfold parseT at h
  split at h
  · cases h; rfl
  · split at h
    · cases h
    · split at h
      · cases h; assumption
      · cases h
structure LnOk (l : Ln) : Prop where
  cur : (l.cur.size : Int) ≤ 9223372036854775807
  amt : l.amt = 0
  base : -2000000000000000 ≤ l.base ∧ l.base ≤ 2000000000000000
  s : LnS l
  len : l.tags.length ≤ 6
theorem right_s {ts : List Tg} (h : rightB ts = true) : ∀ t ∈ ts, tgS t := fun t ht => by
  obtain ⟨i, hi⟩ := List.getElem?_of_mem ht
  have := tg_size (right_at h hi)
  exact ⟨by omega, by omega⟩
theorem lns_ok {p : Rv} {x : Cl} {ts : List Tg} {d : Int} (hx : ClSz x) (hr : rightB ts = true) (hd : -2000000000000000 ≤ d ∧ d ≤ 2000000000000000) : ∀ y ∈ p.lns x ts d, LnOk y := fun y hy => by
  unfold Rv.lns at hy
  split at hy
  · cases hy
  · simp only [List.mem_cons, List.not_mem_nil, or_false] at hy
    rcases hy with rfl | rfl
    · exact ⟨hx.cur, rfl, hd, right_s hr, right_len hr⟩
    · exact ⟨hx.cur, rfl, ⟨by show _ ≤ -d; omega, by show -d ≤ _; omega⟩, (fun t ht => by cases ht), Nat.zero_le _⟩
theorem rvone_ok {p : Rv} {x : Cl} (hx : ClSz x) : (∀ y ∈ (p.one x).1, LnOk y) ∧ (p.one x).1.length ≤ 2 := by
  unfold Rv.one
  split
  · exact ⟨(fun y h => by cases h), Nat.zero_le _⟩
  · split
    · exact ⟨(fun y h => by cases h), Nat.zero_le _⟩
    · rename_i ts hts
      split
      · exact ⟨(fun y h => by cases h), Nat.zero_le _⟩
      · split
        · have hb : -1000000000000000 ≤ (p.conv x).1 ∧ (p.conv x).1 ≤ 1000000000000000 := conv_bd p.base p.rs x.amt x.k.cur p.base 1 p.day p.mode
          have hb2 := hx.base
          exact ⟨lns_ok hx (parse_right hts) (by constructor <;> omega), by show (p.lns _ _ _).length ≤ 2; unfold Rv.lns; split <;> simp⟩
        · exact ⟨(fun y h => by cases h), Nat.zero_le _⟩
theorem go_ok {p : Rv} : ∀ {l : List Cl}, (∀ x ∈ l, ClSz x) → (∀ y ∈ (p.go l).1, LnOk y) ∧ (p.go l).1.length ≤ 2 * l.length
  | [], _ => ⟨(fun y h => by cases h), Nat.zero_le _⟩
  | x :: t, h => by
    have h1 := rvone_ok (p := p) (h x (by simp))
    have h2 := go_ok (p := p) (l := t) (fun y hy => h y (by simp [hy]))
    simp only [Rv.go]
    split
    · split
      · refine ⟨fun y hy => ?_, by simp only [List.length_append, List.length_cons]; omega⟩
        rcases List.mem_append.1 hy with hy | hy
        · exact h1.1 y hy
        · exact h2.1 y hy
      · exact ⟨(fun y h => by cases h), Nat.zero_le _⟩
    · exact ⟨(fun y h => by cases h), Nat.zero_le _⟩
theorem LnOk.of_e {l m : Ln} (h : LnOk m) (e : l.e = m) : LnOk l := by subst e; exact ⟨h.cur, h.amt, h.base, h.s, h.len⟩
theorem ok_e {ls : List Ln} {ms : List Ln} (he : ls.map Ln.e = ms) (h : ∀ y ∈ ms, LnOk y) : ∀ y ∈ ls, LnOk y := fun y hy => (h y.e (by rw [← he]; exact List.mem_map_of_mem hy)).of_e rfl
theorem e_len {ls ms : List Ln} (he : ls.map Ln.e = ms) : ls.length = ms.length := by rw [← he, List.length_map]
theorem grp_e (ls : List Ln) (y : Ln) : grpL (ls.map Ln.e) y.e = (grpL ls y).map Ln.e := by unfold grpL; rw [List.filter_map]; rfl
theorem fit_e (ls : List Ln) (y : Ln) : fitL (ls.map Ln.e) y.e = fitL ls y := by unfold fitL; rw [grp_e, amts_e, bass_e]
theorem nzL_e (ls : List Ln) (y : Ln) : nzL (ls.map Ln.e) y.e = nzL ls y := by unfold nzL sumLn; rw [grp_e, amts_e, bass_e]; rfl
theorem mrg_e (ls : List Ln) : ∀ (t p : List Ln), mrgF (ls.map Ln.e) (p.map Ln.e) (t.map Ln.e) = mrgF ls p t
  | [], p => rfl
  | y :: t, p => by
    have ih := mrg_e ls t (p ++ [y])
    rw [List.map_append] at ih
    simp only [List.map_cons, mrgF]
    have ha : ((p.map Ln.e).any fun z => alB z y.e) = p.any fun z => alB z y := by rw [List.any_map]; rfl
    rw [ha, fit_e, nzL_e]
    simp only [List.map_cons, List.map_nil] at ih
    rw [ih]
theorem merge_e (ls : List Ln) : mergeL (ls.map Ln.e) = mergeL ls := by unfold mergeL; rw [show mrgF (ls.map Ln.e) [] (ls.map Ln.e) = mrgF ls [] ls from mrg_e ls ls []]
theorem mrg_mem {ls : List Ln} : ∀ {t p m : List Ln}, mrgF ls p t = some m → ∀ z ∈ m, ∃ y ∈ t, z = sumLn ls y ∧ fitL ls y = true ∧ p.any (fun u => alB u y) = false
  | [], p, m, h, z, hz => by simp only [mrgF, Option.some.injEq] at h; subst h; cases hz
  | y :: t, p, m, h, z, hz => by
    have drop : ∀ {u : Ln}, (p ++ [y]).any (fun v => alB v u) = false → p.any (fun v => alB v u) = false := fun h => by rw [List.any_append, Bool.or_eq_false_iff] at h; exact h.1
    simp only [mrgF] at h
    split at h
    · obtain ⟨u, hu, h1, h2, h3⟩ := mrg_mem h z hz
      exact ⟨u, by simp [hu], h1, h2, drop h3⟩
    · rename_i hs
      split at h
      · rename_i hf
        rw [Option.map_eq_some_iff] at h
        obtain ⟨m2, hm2, rfl⟩ := h
        rcases List.mem_append.1 hz with hz | hz
        · unfold nzL at hz
          split at hz
          · cases hz
          · rw [List.mem_singleton] at hz
            exact ⟨y, by simp, hz, hf, by simpa using hs⟩
        · obtain ⟨u, hu, h1, h2, h3⟩ := mrg_mem hm2 z hz
          exact ⟨u, by simp [hu], h1, h2, drop h3⟩
      · cases h
theorem merge_mem {ls : List Ln} : ∀ z ∈ (mergeL ls).1, ∃ y ∈ ls, z = sumLn ls y ∧ fitL ls y = true := fun z hz => by
  unfold mergeL at hz
  split at hz
  · cases hz
  · rename_i m hm
    obtain ⟨y, hy, h1, h2, _⟩ := mrg_mem hm z hz
    exact ⟨y, hy, h1, h2⟩
theorem merge_rd {ls out : List Ln} (h : ∀ y ∈ ls, LnOk y) (he : out.map Ln.e = (mergeL ls).1) : ∀ z ∈ out, (z.cur.size : Int) ≤ 9223372036854775807 ∧ i64 z.amt ∧ i64 z.base := fun z hz => by
  obtain ⟨y, hy, h1, h2⟩ := merge_mem z.e (he ▸ List.mem_map_of_mem hz)
  unfold fitL at h2
  rw [Bool.and_eq_true] at h2
  have e1 : z.e.cur = y.cur := by rw [h1]; rfl
  have e2 : z.e.amt = (amts (grpL ls y)).sum := by rw [h1]; rfl
  have e3 : z.e.base = (bass (grpL ls y)).sum := by rw [h1]; rfl
  rw [show z.cur = y.cur from e1, show z.amt = _ from e2, show z.base = _ from e3]
  simp only [wiB, decide_eq_true_eq] at h2
  exact ⟨(h y hy).cur, ⟨by omega, by omega⟩, ⟨by omega, by omega⟩⟩
section
variable {p : Rv} {l : List Cl} {ent who : ByteArray} {book : Int}
theorem rve_sh (h : shB l = false) : p.entry l ent who book = (en0, 2) := if_pos h
theorem rve_go (h : shB l = true) (h2 : ¬ (p.go (ofE ent l)).2 = 0) : p.entry l ent who book = (en0, (p.go (ofE ent l)).2) := by unfold Rv.entry; rw [if_neg (by rw [h]; decide), if_neg h2]
theorem rve_mg (h : shB l = true) (h2 : (p.go (ofE ent l)).2 = 0) {ls : List Ln} (he : ls.map Ln.e = (p.go (ofE ent l)).1) (h3 : ¬ (mergeL ls).2 = 0) : p.entry l ent who book = (en0, (mergeL ls).2) := by unfold Rv.entry; rw [if_neg (by rw [h]; decide), if_pos h2, ← he, merge_e, if_neg h3]
theorem rve_no (h : shB l = true) (h2 : (p.go (ofE ent l)).2 = 0) {ls : List Ln} (he : ls.map Ln.e = (p.go (ofE ent l)).1) (h3 : (mergeL ls).2 = 0) (h4 : (mergeL ls).1 = []) : p.entry l ent who book = (en0, 18) := by unfold Rv.entry; rw [if_neg (by rw [h]; decide), if_pos h2, ← he, merge_e, if_pos h3, if_pos h4]
theorem rve_fin (h : shB l = true) (h2 : (p.go (ofE ent l)).2 = 0) {ls out : List Ln} {la : Option Addr} {lc : Nat} (he : ls.map Ln.e = (p.go (ofE ent l)).1) (h3 : (mergeL ls).2 = 0) (ho : out.map Ln.e = (mergeL ls).1) (h4 : ¬ out.length = 0) : p.entry l ent who book = if (chkN ⟨0, ent, book, p.day, 6, bs0, who, 0, la, lc, out⟩).2 = 0 then ((⟨0, ent, book, p.day, 6, bs0, who, 0, la, lc, out⟩ : En).e, 0) else (en0, (chkN ⟨0, ent, book, p.day, 6, bs0, who, 0, la, lc, out⟩).2) := by
  have hne : ¬ (mergeL ls).1 = [] := fun h => h4 (by rw [e_len ho, h]; rfl)
  have hE : (⟨0, ent, book, p.day, 6, bs0, who, 0, la, lc, out⟩ : En).e = enR ent who book p.day (mergeL ls).1 := by unfold En.e enR; simp only [ho]
  unfold Rv.entry
  rw [if_neg (by rw [h]; decide), if_pos h2, ← he, merge_e, if_pos h3, if_neg hne, ← hE, chkN_e]
end
end Go.SL

namespace Go.SL
open Go
def Rv.wi (p : Rv) (m : List Ac) : Rv := ⟨m, p.base, p.rs, p.day, p.mode, p.gain, p.loss⟩
theorem one_st {p : Rv} {m : List Ac} (h : m.map Ac.st = p.xs.map Ac.st) (x : Cl) : (p.wi m).one x = p.one x := by
  have hg := get_st (code := x.k.acc) h
  unfold Rv.one Rv.wi
  cases h1 : getL m x.k.acc <;> cases h2 : getL p.xs x.k.acc <;> rw [h1, h2] at hg <;> simp at hg ⊢
  have e1 := congrArg Ac.mon hg
  simp only [Ac.st] at e1
  rw [e1]; rfl
theorem go_st {p : Rv} {m : List Ac} (h : m.map Ac.st = p.xs.map Ac.st) : ∀ l, (p.wi m).go l = p.go l
  | [] => rfl
  | x :: t => by simp only [Rv.go, one_st h, go_st h t]
theorem rve_st {p : Rv} {m : List Ac} (h : m.map Ac.st = p.xs.map Ac.st) (l : List Cl) (ent who : ByteArray) (book : Int) : (p.wi m).entry l ent who book = p.entry l ent who book := by
  unfold Rv.entry
  rw [go_st h]; rfl
def Rv.lines (p : Rv) (xs : List Cl) : List Ln × Int := if shB xs = false then ([], 2) else p.go xs
def reX (o : Option Chv) (u : Option Fxv) (p : Rv) (xs : List Cl) (ent who : ByteArray) (book : Int) : En × Int := if o.isSome = true ∧ u.isSome = true then p.entry xs ent who book else (en0, 1)
theorem reX_no {o : Option Chv} {u : Option Fxv} {p : Rv} {xs : List Cl} {ent who : ByteArray} {book : Int} (h : ¬ (o.isSome = true ∧ u.isSome = true)) : reX o u p xs ent who book = (en0, 1) := if_neg h
theorem reX_yes {o : Option Chv} {u : Option Fxv} {p : Rv} {xs : List Cl} {ent who : ByteArray} {book : Int} (h : o.isSome = true ∧ u.isSome = true) : reX o u p xs ent who book = p.entry xs ent who book := if_pos h
section
variable {C S F T : TypeId} {c : Chv} {z : Fxv} {A B R : HP}
theorem cf_in {h : Hp} (hh : stars [chH C S (some c), fxH F T (some z), R] h) : stars [pt c.b (blk [.map (some c.bm), c.v, c.w] C), amap c.bm acF acG c.m, big (ndH S) c.m, pt z.b (blk [St z.base, I z.n, .map (some z.bm)] F), amap z.bm srF srG z.m, big (srH T) z.m, R] h := by
  have h1 : stars [pt c.b (blk [.map (some c.bm), c.v, c.w] C), amap c.bm acF acG c.m, big (ndH S) c.m, fxH F T (some z), R] h :=
    stars_mk (As := [pt c.b (blk [.map (some c.bm), c.v, c.w] C), amap c.bm acF acG c.m, big (ndH S) c.m]) (M := [fxH F T (some z), R]) hh
  refine star_mono (fun _ h => h) (fun _ h2 => ?_) h1
  refine star_mono (fun _ h => h) (fun _ h3 => ?_) h2
  refine star_mono (fun _ h => h) (fun _ h4 => ?_) h3
  exact stars_mk (As := [pt z.b (blk [St z.base, I z.n, .map (some z.bm)] F), amap z.bm srF srG z.m, big (srH T) z.m]) (M := [R]) h4
theorem cf_out0 {h : Hp} (hh : stars [pt c.b (blk [.map (some c.bm), c.v, c.w] C), amap c.bm acF acG c.m, big (ndH S) c.m, pt z.b (blk [St z.base, I z.n, .map (some z.bm)] F), amap z.bm srF srG z.m, big (srH T) z.m, R] h) : stars [chH C S (some c), fxH F T (some z), R] h := by
  have h1 : stars [pt c.b (blk [.map (some c.bm), c.v, c.w] C), amap c.bm acF acG c.m, big (ndH S) c.m, fxH F T (some z), R] h := by
    refine star_mono (fun _ h => h) (fun _ h2 => ?_) hh
    refine star_mono (fun _ h => h) (fun _ h3 => ?_) h2
    refine star_mono (fun _ h => h) (fun _ h4 => ?_) h3
    exact stars_un (As := [pt z.b (blk [St z.base, I z.n, .map (some z.bm)] F), amap z.bm srF srG z.m, big (srH T) z.m]) (M := [R]) h4
  exact stars_un (As := [pt c.b (blk [.map (some c.bm), c.v, c.w] C), amap c.bm acF acG c.m, big (ndH S) c.m]) (M := [fxH F T (some z), R]) h1
theorem cf_out : Imp [A, B, pt c.b (blk [.map (some c.bm), c.v, c.w] C), amap c.bm acF acG c.m, big (ndH S) c.m, pt z.b (blk [St z.base, I z.n, .map (some z.bm)] F), amap z.bm srF srG z.m, big (srH T) z.m, R] [A, B, chH C S (some c), fxH F T (some z), R] := fun β w hs => Has.mono hs fun _ h =>
  star_mono (fun _ h => h) (fun _ h2 => star_mono (fun _ h => h) (fun _ h3 => cf_out0 h3) h2) h
end
end Go.SL
