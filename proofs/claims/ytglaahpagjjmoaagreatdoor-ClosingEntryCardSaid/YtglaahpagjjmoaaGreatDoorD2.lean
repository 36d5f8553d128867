/- Laws of the walks and of the models, part 2 (merged by program). -/
import Derived.Test.YtglaahpagjjmoaaGreatDoorD1
import Derived.Laws.Externs
import Derived.Lib.Strings
import Derived.Lib.Bytealg
import Derived.Shelf.Small.Strs
import Derived.Shelf.Slices.In.SortAlone
import Derived.Shelf.Slices.In.SortNone
import Derived.Shelf.Strings.Cut
import Derived.Shelf.SlIter.Nil
import Derived.Lib.AppendZerosOnto
set_option linter.unusedVariables false
set_option linter.unusedSimpArgs false
set_option maxRecDepth 20000
set_option maxHeartbeats 4000000
namespace Go.SL
open Go
section
variable {P : Program} {β : Base} {E : Env} {L L' M M' : List HP} {K : Value → List HP → Prop} {d : Option Tmp} {ty : TypeId} {pos : String} {af : Array Edge} {gd : Option (Nat × Bool)} {x y : Operand} {t t' : TypeId} {s u : ByteArray}
theorem run_addS {w : World} (h : (s.size : Int) + u.size ≤ 9223372036854775807) : (binOp .add t (.string s) (.string u)).run P w = .ok (.string (s ++ u)) w := by
  have h1 : IntKind.i64.max = 9223372036854775807 := by rfl
  rw [binOp_string_add]
  simp only [Op.stringOp, h1]
  rw [if_neg (by omega)]; rfl
theorem OpJ.addS (hx : E.ev x = some (.string s)) (hy : E.ev y = some (.string u)) (hs : (s.size : Int) + u.size ≤ 9223372036854775807) (h : K (.string (s ++ u)) L) : OpJ P β E L ⟨d, .binOp .add t x y t', ty, pos, af, gd⟩ K :=
  OpJ.same (fun a w ha _ => by
    have := run_addS (P := P) (w := w) (t := t) hs
    simp [execOp, ha.ev hx, ha.ev hy, eqGuard, this]) h
theorem DetJ.addS (hx : E.ev x = some (.string s)) (hy : E.ev y = some (.string u)) (hs : (s.size : Int) + u.size ≤ 9223372036854775807) : DetJ P β E L ⟨d, .binOp .add t x y t', ty, pos, af, gd⟩ (.string (s ++ u)) :=
  fun a w ha _ => by
    have := run_addS (P := P) (w := w) (t := t) hs
    simp [execOp, ha.ev hx, ha.ev hy, eqGuard, this]
theorem DetJ.geqS (hx : E.ev x = some (.string s)) (hy : E.ev y = some (.string u)) : DetJ P β E L ⟨d, .binOp .geq t x y t', ty, pos, af, gd⟩ (.bool (!(Op.bytesLess s.toList u.toList))) :=
  fun a w ha _ => by simp [execOp, ha.ev hx, ha.ev hy, eqGuard, binOp, Op.stringOp]
theorem OpJ.sliceSLo {i : Nat} {oh : Operand} (U : P.underlying t = some .string) (hx : E.ev x = some (.string s)) (hh : E.ev oh = some (.int .i64 (i : Int))) (hi : i ≤ s.size) (h : K (.string (s.extract i s.size)) L) : OpJ P β E L ⟨d, .slice t x (some oh) none none, ty, pos, af, gd⟩ K :=
  OpJ.same (fun a w ha _ => by
    simp only [execOp, Option.map_none, Option.map_some, ha.ev hx, ha.ev hh, Instr.sliceAt, Instr.slice]
    simp [run_underlying U, Instr.sliceBounds, Instr.sliceBound, asIntOf, hi]) h
theorem OpJ.sliceSHi {i : Nat} {oh : Operand} (U : P.underlying t = some .string) (hx : E.ev x = some (.string s)) (hh : E.ev oh = some (.int .i64 (i : Int))) (hi : i ≤ s.size) (h : K (.string (s.extract 0 i)) L) : OpJ P β E L ⟨d, .slice t x none (some oh) none, ty, pos, af, gd⟩ K :=
  OpJ.same (fun a w ha _ => by
    simp only [execOp, Option.map_none, Option.map_some, ha.ev hx, ha.ev hh, Instr.sliceAt, Instr.slice]
    simp [run_underlying U, Instr.sliceBounds, Instr.sliceBound, asIntOf, hi]) h
theorem OpJ.rangeS (U : P.underlying t = some .string) (hx : E.ev x = some (.string s)) (h : ∀ r, K (.pointer (some ⟨r, 0, none⟩)) (pt r (.stringIter s 0) :: L)) : OpJ P β E L ⟨d, .range t x, ty, pos, af, gd⟩ K :=
  OpJ.vals fun a w ha hs => ⟨.pointer (some ⟨w.heap.size, 0, none⟩), pt w.heap.size (.stringIter s 0) :: L, w.alloc (.stringIter s 0), by
    simp only [execOp, ha.ev hx, Instr.range, Sem.run_bind, Sem.run_pure, run_underlying U, Result.andThen, newObj, Sem.run]; rfl, Has.alloc hs _, h w.heap.size⟩
theorem OpJ.nextS {r i : Nat} {Ls : Nat → List HP} (hx : E.ev x = some (.pointer (some ⟨r, 0, none⟩))) (p : Pick L (pt r (.stringIter s i)) M) (u : ∀ j, Upd L (pt r (.stringIter s i)) (pt r (.stringIter s j)) (Ls j))
    (h0 : ¬ i < s.size → K (.tuple ⟨[.bool false]⟩) L) (h1 : i < s.size → K (.tuple ⟨[.bool true, .int .i64 i, .int .i32 ((Utf8.decode s i).1 : Int)]⟩) (Ls (i + (Utf8.decode s i).2))) : OpJ P β E L ⟨d, .next x true, ty, pos, af, gd⟩ K :=
  OpJ.vals fun a w ha hs => by
    have hr : w.heap[r]? = some (.stringIter s i) := hs.heap p
    by_cases hi : i < s.size
    · obtain ⟨M2, g2, g3⟩ := (u (i + (Utf8.decode s i).2)).star
      have hs2 : Has β (star (pt r (.stringIter s i)) (stars M2)) w := hs.mono g2
      refine ⟨_, _, { w with heap := w.heap.setIfInBounds r (.stringIter s (i + (Utf8.decode s i).2)) }, ?_, Has.mono (Has.setObj (o' := .stringIter s (i + (Utf8.decode s i).2)) hs2 rfl rfl rfl rfl) g3, h1 hi⟩
      simp only [execOp, ha.ev hx, Instr.next, Sem.run_bind, Sem.run_pure, getObj, setObj, Sem.run, hr, Result.andThen, hi, if_true, goInt]
    · refine ⟨_, L, w, ?_, hs, h0 hi⟩
      simp only [execOp, ha.ev hx, Instr.next, Sem.run_bind, Sem.run_pure, getObj, Sem.run, hr, Result.andThen, hi, if_false]
end
theorem decode_ascii {s : ByteArray} {i : Nat} {u : UInt8} (h : s[i]? = some u) (hu : u.toNat < 128) : Utf8.decode s i = (u.toNat, 1) := by
  have hi : i < s.size := by
    by_cases hi : i < s.size
    · exact hi
    · rw [getElem?_neg s i hi] at h; cases h
  have hg : s.get! i = u := by
    rw [getElem?_pos s i hi] at h; cases h
    show s.data[i]! = _
    rw [getElem!_pos s.data i hi]; rfl
  unfold Utf8.decode
  simp only [Nat.add_zero, hg, hu, if_true]
theorem decode_high {s : ByteArray} {i : Nat} {u : UInt8} (h : s[i]? = some u) (hu : ¬ u.toNat < 128) : 128 ≤ (Utf8.decode s i).1 := by
  have hi : i < s.size := by
    by_cases hi : i < s.size
    · exact hi
    · rw [getElem?_neg s i hi] at h; cases h
  have hg : s.get! i = u := by
    rw [getElem?_pos s i hi] at h; cases h
    show s.data[i]! = _
    rw [getElem!_pos s.data i hi]; rfl
  unfold Utf8.decode
  simp only [Nat.add_zero, hg, hu, if_false, Utf8.runeError]
  split
  · split
    · rename_i h; exact h
    · decide
  · split
    · split
      · rename_i h; simp only [ge_iff_le, Bool.and_eq_true, decide_eq_true_eq] at h; exact Nat.le_trans (by decide) h.1
      · decide
    · split
      · split
        · rename_i h; simp only [ge_iff_le, Bool.and_eq_true, decide_eq_true_eq] at h; exact Nat.le_trans (by decide) h.1
        · decide
      · decide
end Go.SL

namespace Go.SL
open Go
section
variable {P : Program} {f : FuncId} {args : Array Value} {α γ : Type} {φ : α → Prop} {Bs : α → List HP} {Rs : List HP} {Q : Value → HP}
def boxed (φ : α → Prop) (Bs : α → List HP) : HP := hex fun x => lift (φ x) (stars (Bs x))
theorem AC.open (h : ∀ x, φ x → AC P f args (stars (Bs x ++ Rs)) Q) : AC P f args (stars (boxed φ Bs :: Rs)) Q := fun w hp hA hs => by
  obtain ⟨h1, h2, hd, rfl, ⟨x, hx, hb⟩, hr⟩ := hA
  exact h x hx w _ (stars_append ⟨h1, h2, hd, rfl, hb, hr⟩) hs
theorem boxed.mk {x : α} (hx : φ x) {h : Hp} (hs : stars (Bs x ++ Rs) h) : stars (boxed φ Bs :: Rs) h :=
  star_mono (fun _ hb => ⟨x, hx, hb⟩) (fun _ => id) (stars_un hs)
def Imp (L M : List HP) : Prop := ∀ (β : Base) (w : World), Sat β L w → Sat β M w
theorem Imp.gv {L M : List HP} (g : Gives L M) : Imp L M := fun β w hs => hs.gives g
theorem Imp.trans {L M N : List HP} (h : Imp L M) (k : Imp M N) : Imp L N := fun β w hs => k β w (h β w hs)
theorem Imp.bx {x : α} {L M : List HP} (hx : φ x) (g : Gives L (Bs x ++ Rs)) (g2 : Gives (boxed φ Bs :: Rs) M) : Imp L M := fun β w hs =>
  Sat.gives g2 (Has.mono (hs.gives g) fun _ h => boxed.mk hx h)
theorem Imp.ownNil {L : List HP} (T : TypeId) (k : Nat) : Imp L (own T k none 0 0 [] :: L) := fun β w hs => Has.ownNil hs
theorem Imp.emp {L : List HP} : Imp L (SL.emp :: L) := fun β w hs => Has.mono hs fun h hh => ⟨fun _ => none, h, fun b => .inl rfl, by funext b; simp [Hp.add], fun _ => rfl, hh⟩
theorem Has.self {A : HP} {w : World} {hp : Hp} (hA : A hp) (hs : hp.sub w) : Has ⟨w, hp⟩ A w := ⟨⟨hp, hA, hs, fun b hb => .inl hb⟩, ⟨fun _ _ _ => rfl, Nat.le_refl _, rfl, rfl, rfl⟩⟩
theorem AC.outs {As : List HP} {ψ0 : α → Prop} {R0 : α → Value} {B0 : α → List HP} {ψ : γ → Prop} {R' : γ → Value} {Cs : γ → List HP} (hc : AC P f args (stars As) (Outs ψ0 R0 B0)) (hk : ∀ y, ψ0 y → ∃ z, ψ z ∧ R0 y = R' z ∧ Imp (B0 y) (Cs z)) : AC P f args (stars As) (Outs ψ R' Cs) := fun w hp hA hs => by
  refine (hc w hp hA hs).mono ?_
  rintro e w' ⟨r, rfl, ⟨hq, ⟨y, ⟨hy, hr⟩, hB⟩, hsub, hown⟩, hrest⟩
  obtain ⟨z, hz, e2, hi⟩ := hk y hy
  exact ⟨r, rfl, (hi _ _ ⟨⟨_, hB, hsub, hown⟩, hrest⟩).mono fun _ h => ⟨z, ⟨hz, hr.trans e2⟩, h⟩⟩
end
end Go.SL

namespace Go.SL
open Go
section
variable {P : Program} {β : Base} {n : Nat} {arr : Array Oper} {os : List Oper} {E : Env} {L L' M M' : List HP} {KK : Env → List HP → Prop} {Q : Po} {α : Type} {f : α → HP} {xs : List α} {x y : α} {i : Nat}
def big (f : α → HP) (xs : List α) : HP := stars (xs.map f)
theorem big_out : ∀ {xs : List α} {i : Nat}, xs[i]? = some x → ∀ h, big f xs h → star (f x) (big f (xs.eraseIdx i)) h
  | [], _, hx, _, _ => by simp at hx
  | z :: xs, 0, hx, h, hb => by simp at hx; subst hx; exact hb
  | z :: xs, i + 1, hx, h, hb => by
    have ih := big_out (xs := xs) (i := i) (by simpa using hx)
    exact star_left (star_mono (fun _ => id) ih hb)
theorem big_in : ∀ {xs : List α} {i : Nat}, i < xs.length → ∀ h, star (f y) (big f (xs.eraseIdx i)) h → big f (xs.set i y) h
  | [], _, hx, _, _ => by simp at hx
  | z :: xs, 0, hx, h, hb => hb
  | z :: xs, i + 1, hx, h, hb => by
    have ih := big_in (xs := xs) (i := i) (by simpa using hx)
    exact star_mono (fun _ => id) ih (star_left hb)
theorem big_app : ∀ {xs : List α}, ∀ h, star (f y) (big f xs) h → big f (xs ++ [y]) h
  | [], h, hb => hb
  | z :: xs, h, hb => star_mono (fun _ => id) (big_app (xs := xs)) (star_left hb)
theorem big_nil : big f [] (fun _ => none) := fun _ => rfl
theorem big_rds {oa : Option Addr} {cs : List Value} : ∀ {xs : List α}, x ∈ xs → RdS (f x) oa cs → RdS (big f xs) oa cs
  | [], hx, _ => by cases hx
  | z :: xs, hx, hr => by
    rcases List.mem_cons.1 hx with rfl | hx
    · exact RdS.inl hr
    · exact RdS.inr (big_rds hx hr)
theorem pick_map {A B C : HP} (p : Pick L A M) (h : ∀ h, A h → star B C h) : ∀ h, stars L h → stars (B :: C :: M) h := fun hp hs => star_assoc' (star_mono h (fun _ => id) (p.star hs))
theorem pick_join {A B C : HP} (p : Pick L A M) (q : Pick M B M') (h : ∀ h, star A B h → C h) : ∀ h, stars L h → stars (C :: M') h := fun hp hs =>
  star_mono h (fun _ => id) (star_assoc (star_mono (fun _ => id) (fun _ hm => q.star hm) (p.star hs)))
theorem RunL.bigOut (p : Pick L (big f xs) M) (hx : xs[i]? = some x) (h : RunL P β n arr os E (f x :: big f (xs.eraseIdx i) :: M) KK) : RunL P β n arr os E L KK :=
  RunL.mapL (fun w hs => Has.mono hs (pick_map p (big_out hx))) h
theorem Run.bigOut {c : Code} (p : Pick L (big f xs) M) (hx : xs[i]? = some x) (h : Run P β n c E (f x :: big f (xs.eraseIdx i) :: M) Q) : Run P β n c E L Q :=
  Run.mapL (fun w hs => Has.mono hs (pick_map p (big_out hx))) h
theorem RunL.bigIn (f : α → HP) (xs : List α) (i : Nat) (y : α) (p : Pick L (f y) M) (q : Pick M (big f (xs.eraseIdx i)) M') (hi : i < xs.length) (h : RunL P β n arr os E (big f (xs.set i y) :: M') KK) : RunL P β n arr os E L KK :=
  RunL.mapL (fun w hs => Has.mono hs (pick_join p q (big_in hi))) h
theorem Run.bigIn {c : Code} (f : α → HP) (xs : List α) (i : Nat) (y : α) (p : Pick L (f y) M) (q : Pick M (big f (xs.eraseIdx i)) M') (hi : i < xs.length) (h : Run P β n c E (big f (xs.set i y) :: M') Q) : Run P β n c E L Q :=
  Run.mapL (fun w hs => Has.mono hs (pick_join p q (big_in hi))) h
theorem RunL.bigApp (f : α → HP) (xs : List α) (y : α) (p : Pick L (f y) M) (q : Pick M (big f xs) M') (h : RunL P β n arr os E (big f (xs ++ [y]) :: M') KK) : RunL P β n arr os E L KK :=
  RunL.mapL (fun w hs => Has.mono hs (pick_join p q (big_app))) h
theorem Run.bigApp {c : Code} (f : α → HP) (xs : List α) (y : α) (p : Pick L (f y) M) (q : Pick M (big f xs) M') (h : Run P β n c E (big f (xs ++ [y]) :: M') Q) : Run P β n c E L Q :=
  Run.mapL (fun w hs => Has.mono hs (pick_join p q (big_app))) h
theorem emp_big (h : Hp) (hh : stars L h) : stars (big f [] :: L) h := (⟨fun _ => none, h, fun b => .inl rfl, by funext b; simp [Hp.add], big_nil, hh⟩ : star (big f []) (stars L) h)
theorem RunL.bigNil (f : α → HP) (h : RunL P β n arr os E (big f [] :: L) KK) : RunL P β n arr os E L KK :=
  RunL.mapL (fun w hs => Has.mono hs emp_big) h
theorem Run.bigNil {c : Code} (f : α → HP) (h : Run P β n c E (big f [] :: L) Q) : Run P β n c E L Q :=
  Run.mapL (fun w hs => Has.mono hs emp_big) h
end
attribute [irreducible] big
end Go.SL

namespace Go.SL
open Go
class XI (P : Program) (f : FuncId) (e : Array Value → Sem Value) : Prop where
  fn : ∃ fn, P.funcs[f]? = some fn ∧ (fn.name == "runtime.NumGoroutine") = false ∧ fn.body.isNone = true ∧ Extern.findNext fn = none ∧ Extern.find fn = some e
section
variable {P : Program} {β : Base} {E : Env} {L : List HP} {K : Value → List HP → Prop} {d : Option Tmp} {ty : TypeId} {pos : String} {af : Array Edge} {g : Option (Nat × Bool)}
theorem OpJ.ext {f : FuncId} {e : Array Value → Sem Value} {xs : List Operand} {ats : Array TypeId} {vs : List Value} {v : Value} (X : XI P f e) (hxs : E.evs xs = some vs) (hr : ∀ w, (e ⟨vs⟩).run P w = .ok v w) (h : K v L) : OpJ P β E L ⟨d, .call ⟨.value (.func f), ⟨xs⟩, ats⟩, ty, pos, af, g⟩ K :=
  OpJ.same (fun a w ha _ => by
    obtain ⟨fn, hf, h1, h2, h3, h4⟩ := X.fn
    have hargs : Array.map a.eval ⟨xs⟩ = ⟨vs⟩ := by rw [List.map_toArray, ha.evs hxs]
    have hc := run_callFunc_extern hf h1 h2 h3 h4 ⟨vs⟩ w
    rw [hr w] at hc
    have hx : a.eval (.func f) = .func (.func f) #[] #[] := rfl
    simp [execOp, resolve, hx, Deferred.ofValue, hargs, invoke, hc, Result.andThen]) h
end
theorem run_addU {P : Program} (x y c : Int) (hx : 0 ≤ x) (hy : 0 ≤ y) (hc : 0 ≤ c ∧ c ≤ 1) (w : World) : (add64Entry ⟨[.int .u64 x, .int .u64 y, .int .u64 c]⟩).run P w = .ok (.tuple ⟨[.int .u64 ((x + y + c) % 18446744073709551616), .int .u64 ((x + y + c) / 18446744073709551616)]⟩) w := by
  have := run_add64 (P := P) x y c hx hy hc.1 hc.2 w
  rw [this]
theorem wrapU (z : Int) : IntKind.u64.wrap z = z % 18446744073709551616 := by rw [wrap_u64]
theorem shr63 {x : Int} (h : i64 x) : x.fdiv (2 ^ 63) = if x < 0 then -1 else 0 := by
  rw [Int.fdiv_eq_ediv_of_nonneg _ (by decide)]
  obtain ⟨h1, h2⟩ := h
  split <;> omega
def sumV (xs : List Int) : Int := if i64 xs.sum then xs.sum else 0
instance (n : Int) : Decidable (i64 n) := by unfold i64; exact inferInstance
def fitsV (xs : List Int) : Bool := decide (i64 xs.sum)
def Words (s lo hi : Int) : Prop := (0 ≤ lo ∧ lo < 18446744073709551616) ∧ (0 ≤ hi ∧ hi < 18446744073709551616) ∧ lo = s % 18446744073709551616 ∧ hi = (s / 18446744073709551616) % 18446744073709551616
theorem Words.zero : Words 0 0 0 := by unfold Words; omega
theorem Words.step {s lo hi x : Int} (h : Words s lo hi) (hx : i64 x) :
    Words (s + x) ((lo + x % 18446744073709551616 + 0) % 18446744073709551616) ((hi + (if x < 0 then -1 else 0) % 18446744073709551616 + (lo + x % 18446744073709551616 + 0) / 18446744073709551616) % 18446744073709551616) := by
  unfold Words i64 at *
  split <;> omega
theorem Words.fit {s lo hi : Int} (h : Words s lo hi) (hs : -170141183460469231731687303715884105728 ≤ s ∧ s < 170141183460469231731687303715884105728) :
    (i64 s ↔ (if IntKind.i64.wrap lo < 0 then -1 else 0) % 18446744073709551616 = hi) ∧ (i64 s → IntKind.i64.wrap lo = s) := by
  unfold Words i64 at *
  rw [IntKind.wrap_i64]
  constructor
  · split <;> omega
  · intro h1; omega
theorem wrap_i64 (z : Int) : i64 (IntKind.i64.wrap z) := by unfold i64; rw [IntKind.wrap_i64]; omega
theorem sum_take {xs : List Int} {i : Nat} {x : Int} (h : xs[i]? = some x) : (xs.take (i + 1)).sum = (xs.take i).sum + x := by
  rw [List.take_add_one, h, List.sum_append_int]; simp
theorem i64_sum : ∀ {xs : List Int}, (∀ x ∈ xs, i64 x) → -9223372036854775808 * (xs.length : Int) ≤ xs.sum ∧ xs.sum ≤ 9223372036854775807 * (xs.length : Int)
  | [], _ => by simp
  | x :: xs, h => by
    have h1 := h x (by simp)
    have ih := i64_sum (xs := xs) fun y hy => h y (by simp [hy])
    unfold i64 at h1
    simp only [List.sum_cons, List.length_cons, Int.natCast_add, Int.natCast_one]; omega
theorem cmpB_eq : ∀ (a b : List UInt8), Lib.compareBytes a b = if a = b then 0 else if Op.bytesLess a b = true then -1 else 1
  | [], [] => by simp [Lib.compareBytes]
  | [], _ :: _ => by simp [Lib.compareBytes, Op.bytesLess]
  | _ :: _, [] => by simp [Lib.compareBytes, Op.bytesLess]
  | a :: x, b :: y => by
    have ih := cmpB_eq x y
    have hb : Op.bytesLess (a :: x) (b :: y) = (decide (a < b) || (a == b && Op.bytesLess x y)) := rfl
    have hc : Lib.compareBytes (a :: x) (b :: y) = if a < b then -1 else if b < a then 1 else Lib.compareBytes x y := rfl
    rw [hc, ih]
    by_cases h1 : a < b
    · have hn : ¬ (a :: x = b :: y) := fun e => by simp only [List.cons.injEq] at e; rw [e.1, UInt8.lt_iff_toNat_lt] at h1; omega
      rw [if_pos h1, if_neg hn, if_pos (by rw [hb]; simp [h1])]
    · by_cases h2 : b < a
      · have hn : ¬ (a :: x = b :: y) := fun e => by simp only [List.cons.injEq] at e; rw [e.1, UInt8.lt_iff_toNat_lt] at h2; omega
        have hab : ¬ a = b := fun e => by rw [e, UInt8.lt_iff_toNat_lt] at h2; omega
        rw [if_neg h1, if_pos h2, if_neg hn, if_neg (by rw [hb]; simp [h1, hab])]
      · have hab : a = b := by
          rw [UInt8.lt_iff_toNat_lt] at h1 h2
          exact UInt8.toNat_inj.1 (by omega)
        subst hab
        rw [if_neg h1, if_neg h1]
        by_cases hxy : x = y
        · subst hxy; rw [if_pos rfl, if_pos rfl]
        · have hb2 : Op.bytesLess (a :: x) (a :: y) = Op.bytesLess x y := by rw [hb]; simp [h1]
          rw [if_neg hxy, if_neg (show ¬ (a :: x = a :: y) from fun e => hxy (by simpa using e)), hb2]
theorem cmpB_str (a b : ByteArray) : Lib.compareBytes a.data.toList b.data.toList = cmpS a b := by
  rw [cmpB_eq]
  unfold cmpS blt
  rw [ByteArray.toList_eq, ByteArray.toList_eq]
  by_cases h : a = b
  · subst h; rw [if_pos rfl, if_pos rfl]
  · have : ¬ a.data.toList = b.data.toList := fun e => h (toL_inj (by rw [ByteArray.toList_eq, ByteArray.toList_eq]; exact e))
    rw [if_neg h, if_neg this]
theorem run_cmpS {P : Program} (a b : ByteArray) (w : World) : (Extern.BytealgCompare.compare ⟨[.string a, .string b]⟩).run P w = .ok (.int .i64 (cmpS a b)) w := by
  have := Lib.run_compareString (P := P) a b w
  rw [cmpB_str] at this; exact this
theorem Ky.c_at {k : Ky} {i : Nat} {x : ByteArray} (h : k.l[i]? = some x) : k.c[i]? = some (.string x) := by
  have : k.c = k.l.map Value.string := rfl
  rw [this, List.getElem?_map, h]; rfl
theorem cmpL_same {a b : List ByteArray} {i : Nat} {x y : ByteArray} (hx : a[i]? = some x) (hy : b[i]? = some y) (h : cmpS x y = 0) : cmpL (a.drop i) (b.drop i) = cmpL (a.drop (i + 1)) (b.drop (i + 1)) := by
  obtain ⟨h1, rfl⟩ := List.getElem?_eq_some_iff.1 hx
  obtain ⟨h2, rfl⟩ := List.getElem?_eq_some_iff.1 hy
  rw [List.drop_eq_getElem_cons h1, List.drop_eq_getElem_cons h2]
  simp only [cmpL, h, if_true]
theorem cmpL_diff {a b : List ByteArray} {i : Nat} {x y : ByteArray} (hx : a[i]? = some x) (hy : b[i]? = some y) (h : ¬ cmpS x y = 0) : cmpL (a.drop i) (b.drop i) = cmpS x y := by
  obtain ⟨h1, rfl⟩ := List.getElem?_eq_some_iff.1 hx
  obtain ⟨h2, rfl⟩ := List.getElem?_eq_some_iff.1 hy
  rw [List.drop_eq_getElem_cons h1, List.drop_eq_getElem_cons h2]
  simp only [cmpL, h, if_false]
theorem within_sum (xs : List Int) : withinB xs.sum = (fitsV xs && !largeB (sumV xs)) := by
  unfold withinB fitsV sumV largeB
  by_cases h : i64 xs.sum
  · rw [decide_eq_true h, if_pos h, Bool.true_and, Bool.eq_iff_iff]; simp; omega
  · rw [decide_eq_false h, Bool.false_and, decide_eq_false_iff_not]; unfold i64 at h; omega
theorem fitsV_iff {xs : List Int} : fitsV xs = true ↔ i64 xs.sum := by unfold fitsV; rw [decide_eq_true_eq]
theorem sumV_of {xs : List Int} (h : i64 xs.sum) : sumV xs = xs.sum := if_pos h
attribute [irreducible] fitsV sumV
theorem cap_dec {s : ByteArray} {i : Nat} {u : UInt8} (h : s[i]? = some u) : (capB u = true ∧ Utf8.decode s i = (u.toNat, 1)) ∨ (capB u = false ∧ ¬ (65 ≤ ((Utf8.decode s i).1 : Int) ∧ ((Utf8.decode s i).1 : Int) ≤ 90)) := by
  unfold capB
  by_cases hu : u.toNat < 128
  · have hd := decode_ascii h hu
    rw [hd]
    by_cases hc : 65 ≤ (u.toNat : Int) ∧ (u.toNat : Int) ≤ 90
    · left; exact ⟨decide_eq_true hc, rfl⟩
    · right; exact ⟨decide_eq_false hc, hc⟩
  · have hd := decode_high h hu
    right; exact ⟨decide_eq_false (by omega), by omega⟩
end Go.SL

namespace Go.SL
open Go
structure Colm where
  cur : ByteArray
  b : Nat
  a1 : Option Addr
  c1 : Nat
  a2 : Option Addr
  c2 : Nat
  xs : List Int
  ys : List Int
structure Kinv (ks : List Colm) (ls : List Ln) : Prop where
  val : ∀ x ∈ ks, x.xs = amts (ofCur x.cur ls) ∧ x.ys = bass (ofCur x.cur ls)
  all : ∀ l ∈ ls, ∃ x ∈ ks, x.cur = l.cur
  got : ∀ x ∈ ks, ∃ l ∈ ls, l.cur = x.cur
  uni : ∀ (i j : Nat) (x y : Colm), ks[i]? = some x → ks[j]? = some y → x.cur = y.cur → i = j
  lenk : ks.length ≤ ls.length
theorem Kinv.nil : Kinv [] [] := ⟨(fun _ h => by cases h), (fun _ h => by cases h), (fun _ h => by cases h), (fun i j x y h => by simp at h), Nat.le_refl _⟩
theorem ofCur_app (c : ByteArray) (a b : List Ln) : ofCur c (a ++ b) = ofCur c a ++ ofCur c b := List.filter_append ..
theorem ofCur_one {c : ByteArray} {l : Ln} (h : l.cur = c) : ofCur c [l] = [l] := by unfold ofCur; simp [h]
theorem ofCur_not {c : ByteArray} {l : Ln} (h : ¬ l.cur = c) : ofCur c [l] = [] := by unfold ofCur; simp [h]
theorem Kinv.len {ks : List Colm} {ls : List Ln} (h : Kinv ks ls) {x : Colm} (hx : x ∈ ks) : x.xs.length ≤ ls.length ∧ x.ys.length ≤ ls.length := by
  obtain ⟨h1, h2⟩ := h.val x hx
  rw [h1, h2]
  unfold amts bass
  rw [List.length_map, List.length_map]
  have : (ofCur x.cur ls).length ≤ ls.length := List.length_filter_le ..
  exact ⟨this, this⟩
theorem Kinv.new {ks : List Colm} {ls : List Ln} {l : Ln} (h : Kinv ks ls) (hn : ∀ x ∈ ks, x.cur ≠ l.cur) (b : Nat) (a1 : Option Addr) (c1 : Nat) (a2 : Option Addr) (c2 : Nat) :
    Kinv (ks ++ [⟨l.cur, b, a1, c1, a2, c2, [l.amt], [l.base]⟩]) (ls ++ [l]) := by
  refine ⟨fun x hx => ?_, fun y hy => ?_, fun x hx => ?_, fun i j x y hi hj e => ?_, by have := h.lenk; simp only [List.length_append, List.length_cons, List.length_nil]; omega⟩
  · rw [ofCur_app]
    rcases List.mem_append.1 hx with hx | hx
    · rw [ofCur_not (fun e => hn x hx e.symm), List.append_nil]; exact h.val x hx
    · obtain rfl := List.mem_singleton.1 hx
      have : ofCur l.cur ls = [] := List.filter_eq_nil_iff.2 fun y hy => by
        obtain ⟨x, hx, e⟩ := h.all y hy
        have := hn x hx
        simp only [decide_eq_true_eq]; exact fun e2 => this (by rw [e, e2])
      simp only [this, ofCur_one rfl, List.nil_append, amts, bass, List.map_cons, List.map_nil, and_self]
  · rcases List.mem_append.1 hy with hy | hy
    · obtain ⟨x, hx, e⟩ := h.all y hy; exact ⟨x, List.mem_append_left _ hx, e⟩
    · obtain rfl := List.mem_singleton.1 hy; exact ⟨_, List.mem_append_right _ (List.mem_singleton.2 rfl), rfl⟩
  · rcases List.mem_append.1 hx with hx | hx
    · obtain ⟨y, hy, e⟩ := h.got x hx; exact ⟨y, List.mem_append_left _ hy, e⟩
    · obtain rfl := List.mem_singleton.1 hx; exact ⟨l, List.mem_append_right _ (List.mem_singleton.2 rfl), rfl⟩
  · have key : ∀ {i : Nat} {x : Colm}, (ks ++ [⟨l.cur, b, a1, c1, a2, c2, [l.amt], [l.base]⟩])[i]? = some x → (ks[i]? = some x ∧ x.cur ≠ l.cur) ∨ (i = ks.length ∧ x.cur = l.cur) := fun {i x} hi => by
      by_cases hlt : i < ks.length
      · rw [List.getElem?_append_left hlt] at hi; exact .inl ⟨hi, hn x (List.mem_of_getElem? hi)⟩
      · rw [List.getElem?_append_right (by omega)] at hi
        have : i - ks.length = 0 := by
          have := (List.getElem?_eq_some_iff.1 hi).1
          simp at this; omega
        rw [this] at hi; simp at hi; subst hi; exact .inr ⟨by omega, rfl⟩
    rcases key hi with ⟨h1, h2⟩ | ⟨h1, h2⟩ <;> rcases key hj with ⟨h3, h4⟩ | ⟨h3, h4⟩
    · exact h.uni i j x y h1 h3 e
    · exact absurd (e.trans h4) h2
    · exact absurd (e.symm.trans h2) h4
    · omega
theorem Kinv.old {ks : List Colm} {ls : List Ln} {l : Ln} {i : Nat} {x : Colm} (h : Kinv ks ls) (hx : ks[i]? = some x) (e : x.cur = l.cur) (a1 : Option Addr) (c1 : Nat) (a2 : Option Addr) (c2 : Nat) :
    Kinv (ks.set i ⟨x.cur, x.b, a1, c1, a2, c2, x.xs ++ [l.amt], x.ys ++ [l.base]⟩) (ls ++ [l]) := by
  have hi := (List.getElem?_eq_some_iff.1 hx).1
  have key : ∀ {j : Nat} {y : Colm}, (ks.set i ⟨x.cur, x.b, a1, c1, a2, c2, x.xs ++ [l.amt], x.ys ++ [l.base]⟩)[j]? = some y → (ks[j]? = some y ∧ j ≠ i) ∨ (j = i ∧ y = ⟨x.cur, x.b, a1, c1, a2, c2, x.xs ++ [l.amt], x.ys ++ [l.base]⟩) := fun {j y} hj => by
    rw [List.getElem?_set] at hj
    split at hj
    · rename_i hij
      subst hij
      simp [hi] at hj; exact .inr ⟨rfl, hj.symm⟩
    · rename_i hij; exact .inl ⟨hj, fun e => hij e.symm⟩
  have kmem : ∀ {y : Colm}, y ∈ ks.set i ⟨x.cur, x.b, a1, c1, a2, c2, x.xs ++ [l.amt], x.ys ++ [l.base]⟩ → (∃ j, ks[j]? = some y ∧ j ≠ i) ∨ y = ⟨x.cur, x.b, a1, c1, a2, c2, x.xs ++ [l.amt], x.ys ++ [l.base]⟩ := fun {y} hy => by
    obtain ⟨j, hj, rfl⟩ := List.getElem_of_mem hy
    rcases key (List.getElem?_eq_getElem hj) with h | h
    · exact .inl ⟨j, h⟩
    · exact .inr h.2
  have hself : (⟨x.cur, x.b, a1, c1, a2, c2, x.xs ++ [l.amt], x.ys ++ [l.base]⟩ : Colm) ∈ ks.set i ⟨x.cur, x.b, a1, c1, a2, c2, x.xs ++ [l.amt], x.ys ++ [l.base]⟩ := List.mem_of_getElem? (i := i) (by rw [List.getElem?_set_self hi])
  refine ⟨fun y hy => ?_, fun y hy => ?_, fun y hy => ?_, fun j k y z hj hk e2 => ?_, by have := h.lenk; simp only [List.length_append, List.length_set, List.length_cons, List.length_nil]; omega⟩
  · rw [ofCur_app]
    rcases kmem hy with ⟨j, hj, hji⟩ | rfl
    · rw [ofCur_not (fun e2 => hji (h.uni j i y x hj hx (by rw [e]; exact e2.symm))), List.append_nil]; exact h.val y (List.mem_of_getElem? hj)
    · have := h.val x (List.mem_of_getElem? hx)
      simp only [ofCur_one e.symm, amts, bass, List.map_append, List.map_cons, List.map_nil] at this ⊢
      rw [this.1, this.2]; exact ⟨rfl, rfl⟩
  · have hlift : ∀ z ∈ ks, ∃ w ∈ ks.set i ⟨x.cur, x.b, a1, c1, a2, c2, x.xs ++ [l.amt], x.ys ++ [l.base]⟩, w.cur = z.cur := fun z hz => by
      obtain ⟨j, hj, rfl⟩ := List.getElem_of_mem hz
      by_cases hji : j = i
      · subst hji
        refine ⟨_, hself, ?_⟩
        have := (List.getElem?_eq_some_iff.1 hx).2; rw [this]
      · exact ⟨ks[j], List.mem_of_getElem? (i := j) (by rw [List.getElem?_set_ne (Ne.symm hji)]; exact List.getElem?_eq_getElem hj), rfl⟩
    rcases List.mem_append.1 hy with hy | hy
    · obtain ⟨z, hz, e2⟩ := h.all y hy
      obtain ⟨w, hw, e3⟩ := hlift z hz
      exact ⟨w, hw, e3.trans e2⟩
    · obtain rfl := List.mem_singleton.1 hy; exact ⟨_, hself, e⟩
  · rcases kmem hy with ⟨j, hj, _⟩ | rfl
    · obtain ⟨z, hz, e2⟩ := h.got y (List.mem_of_getElem? hj); exact ⟨z, List.mem_append_left _ hz, e2⟩
    · exact ⟨l, List.mem_append_right _ (List.mem_singleton.2 rfl), e.symm⟩
  · rcases key hj with ⟨h1, h2⟩ | ⟨h1, rfl⟩ <;> rcases key hk with ⟨h3, h4⟩ | ⟨h3, rfl⟩
    · exact h.uni j k y z h1 h3 e2
    · exact absurd (h.uni j i y x h1 hx e2) h2
    · exact absurd (h.uni k i z x h3 hx e2.symm) h4
    · omega
theorem Kinv.bal {ks : List Colm} {ls : List Ln} (h : Kinv ks ls) : balB ls = true ↔ ∀ x ∈ ks, x.xs.sum = 0 ∧ x.ys.sum = 0 := by
  unfold balB
  rw [List.all_eq_true]
  constructor
  · intro hb x hx
    obtain ⟨l, hl, e⟩ := h.got x hx
    have := hb l hl
    unfold balC at this
    simp only [Bool.and_eq_true, decide_eq_true_eq] at this
    obtain ⟨h1, h2⟩ := h.val x hx
    rw [h1, h2, ← e]; exact this
  · intro hb l hl
    obtain ⟨x, hx, e⟩ := h.all l hl
    have := hb x hx
    obtain ⟨h1, h2⟩ := h.val x hx
    unfold balC
    simp only [Bool.and_eq_true, decide_eq_true_eq]
    rw [← e, ← h1, ← h2]; exact this
theorem kAt_new {α κ : Type} [DecidableEq κ] {kf : α → κ} {k : κ} {y : α} : ∀ {xs : List α}, kAt kf k xs = none → kf y = k → kAt kf k (xs ++ [y]) = some (xs.length, y)
  | [], _, e => by simp [kAt, e]
  | x :: xs, h, e => by
    simp only [kAt, List.cons_append] at h ⊢
    split at h
    · cases h
    · rename_i hx
      have hn : kAt kf k xs = none := by
        cases hk : kAt kf k xs with
        | none => rfl
        | some q => rw [hk] at h; cases h
      rw [if_neg hx, kAt_new hn e]; rfl
theorem kSet_new {α κ : Type} [DecidableEq κ] {kf : α → κ} {y : α} {xs : List α} (h : kAt kf (kf y) xs = none) : kSet kf y xs = xs ++ [y] := by unfold kSet; rw [h]
theorem take_step {α : Type} {xs : List α} {i : Nat} {x : α} (h : xs[i]? = some x) : xs.take (i + 1) = xs.take i ++ [x] := by rw [List.take_add_one, h]; rfl
def Colm.cb (x : Colm) : ByteArray × Nat := (x.cur, x.b)
abbrev cbF (p : ByteArray × Nat) : Value := St p.1
abbrev cbG (p : ByteArray × Nat) : Value := .pointer (some ⟨p.2, 0, none⟩)
theorem col_find {ks : List Colm} {c : ByteArray} {q : Nat × ByteArray × Nat} (h : kAt (Prod.fst : ByteArray × Nat → ByteArray) c (ks.map Colm.cb) = some q) : ∃ (i : Nat) (x : Colm), q = (i, x.cur, x.b) ∧ ks[i]? = some x ∧ x.cur = c := by
  obtain ⟨i, p⟩ := q
  obtain ⟨h1, h2⟩ := kAt_some h
  rw [List.getElem?_map] at h1
  cases hx : ks[i]? with
  | none => rw [hx] at h1; cases h1
  | some x =>
    rw [hx] at h1
    simp only [Option.map_some, Option.some.injEq] at h1
    subst h1
    exact ⟨i, x, rfl, hx, h2⟩
theorem Kinv.find {ks : List Colm} {ls : List Ln} (h : Kinv ks ls) {i : Nat} {x : Colm} (hx : ks[i]? = some x) : kAt (Prod.fst : ByteArray × Nat → ByteArray) x.cur (ks.map Colm.cb) = some (i, x.cur, x.b) := by
  have hm : x.cb ∈ ks.map Colm.cb := List.mem_map_of_mem (List.mem_of_getElem? hx)
  cases hk : kAt (Prod.fst : ByteArray × Nat → ByteArray) x.cur (ks.map Colm.cb) with
  | none => exact absurd rfl (kAt_none hk _ hm)
  | some q =>
    obtain ⟨j, y, rfl, hy, e⟩ := col_find hk
    obtain rfl := h.uni j i y x hy hx e
    rw [hx] at hy; cases hy; rfl
theorem setId {α : Type} {xs : List α} {i : Nat} {x : α} (h : xs[i]? = some x) : xs.set i x = xs := by
  obtain ⟨hi, rfl⟩ := List.getElem?_eq_some_iff.1 h
  exact List.set_getElem_self hi
theorem wi_zero {n : Int} : wiB n 0 = true ↔ n = 0 := by unfold wiB; rw [decide_eq_true_eq]; omega
theorem both_zero {x : Colm} (h : wiB x.xs.sum 0 = true ∧ wiB x.ys.sum 0 = true) : x.xs.sum = 0 ∧ x.ys.sum = 0 := ⟨wi_zero.1 h.1, wi_zero.1 h.2⟩
theorem both_nz {x : Colm} (h : wiB x.xs.sum 0 = true → wiB x.ys.sum 0 = false) (h2 : x.xs.sum = 0 ∧ x.ys.sum = 0) : False := by
  have := h (wi_zero.2 h2.1); rw [wi_zero.2 h2.2] at this; cases this
theorem col_set {ks : List Colm} {i : Nat} {x y : Colm} (hx : ks[i]? = some x) (h1 : y.cur = x.cur) (h2 : y.b = x.b) : (ks.set i y).map Colm.cb = ks.map Colm.cb ∧ (ks.set i y).map Colm.cur = ks.map Colm.cur := by
  have hi := (List.getElem?_eq_some_iff.1 hx)
  obtain ⟨hi, rfl⟩ := hi
  constructor
  · rw [List.map_set]; apply List.ext_getElem?; intro j
    rw [List.getElem?_set]
    split
    · rename_i e; subst e; simp [hi, Colm.cb, h1, h2]
    · rfl
  · rw [List.map_set]; apply List.ext_getElem?; intro j
    rw [List.getElem?_set]
    split
    · rename_i e; subst e; simp [hi, h1]
    · rfl
end Go.SL

namespace Go.SL
open Go
section
variable {P : Program} {β : Base} {E : Env} {L L' M M' : List HP} {K : Value → List HP → Prop} {d : Option Tmp} {ty : TypeId} {pos : String} {af : Array Edge} {g : Option (Nat × Bool)} {x y : Operand} {t t' : TypeId} {e : TypeId} {k : Nat}
theorem OpJ.sliceLH {l c b o i j : Nat} {ol oh : Operand} (S : SI P t e k) (hx : E.ev x = some (.slice (some ⟨b, o, none⟩) l c)) (hl : E.ev ol = some (.int .i64 (i : Int))) (hh : E.ev oh = some (.int .i64 (j : Int))) (hi : i < j) (hj : j ≤ c)
    (h : K (.slice (some ⟨b, o + i * k, none⟩) (j - i) (c - i)) L) : OpJ P β E L ⟨d, .slice t x (some ol) (some oh) none, ty, pos, af, g⟩ K :=
  OpJ.same (fun a w ha _ => by
    have h1 : ((i : Int) ≤ (j : Int)) := by omega
    have h2 : ((j : Int) ≤ (c : Int)) := by omega
    have h3 : ¬ c = i := by omega
    simp only [execOp, Option.map_none, Option.map_some, ha.ev hx, ha.ev hl, ha.ev hh, Instr.sliceAt, Instr.slice]
    simp [run_underlying S.under, Instr.sliceBounds, Instr.sliceBound, asIntOf, h1, h2, hj, h3, Nat.le_of_lt hi, S.run_size, Addr.add_eq]) h
theorem OpJ.make0 {bytes m : Nat} {zs : List Value} (S : SI P t e k) (I : MI P e k bytes zs) (hx : E.ev x = some (.int .i64 0)) (hy : E.ev y = some (.int .i64 (m : Int))) (hb : (bytes : Int) * m ≤ 281474976710656) (h63 : (m : Int) ≤ 9223372036854775807)
    (h : ∀ b, K (.slice (some ⟨b, 0, none⟩) 0 m) (own e k (some ⟨b, 0, none⟩) 0 m [] :: L)) : OpJ P β E L ⟨d, .makeSlice t x y, ty, pos, af, g⟩ K := OpJ.vals fun a w ha hs => by
  obtain ⟨i, z, hi, hk, rfl, hz, rfl, hzl⟩ := I.info
  have hr := run_make (P := P) w t e i z S.under hi hz .i64 .i64 0 (m : Int) (Int.le_refl _) (by omega) hb h63
  simp only [Int.toNat_natCast, Int.toNat_zero] at hr
  refine ⟨.slice (some ⟨w.heap.size, 0, none⟩) 0 m, own e k (some ⟨w.heap.size, 0, none⟩) 0 m [] :: L, w.alloc (.cells (madeCells z.cells (m * i.size)) e), ?_, (Has.alloc hs (.cells (madeCells z.cells (m * i.size)) e)).mono (fun hp => star_mono (fun h1 hp1 => ?_) fun _ => id), h w.heap.size⟩
  · simp only [execOp, ha.ev hx, ha.ev hy, Sem.run_bind, hr, Result.andThen_ok]; rfl
  · refine ⟨by simp, Nat.zero_le _, .inr ⟨w.heap.size, (madeCells z.cells (m * i.size)).toList, rfl, ?_, ?_⟩⟩
    · have hmc : (madeCells z.cells (m * i.size)) = ⟨(List.replicate m z.cells.toList).flatten⟩ := by
        have := madeCells_flat z.cells.toList m
        rw [hzl, ← hk] at this
        rw [← this]
      rw [hmc, ← hk]
      simp [hzl, ← hk]
    · exact hp1
end
theorem Rd.pre {R : HP} {a : Addr} {us vs : List Value} (h : Rd R a (us ++ vs)) : Rd R a us := fun hp hr => by
  obtain ⟨cs, t, fr, h1, h2, h3⟩ := h hp hr
  exact ⟨cs, t, fr, h1, h2, fun j v hj => h3 j v (by rw [List.getElem?_append_left (List.getElem?_eq_some_iff.1 hj).1]; exact hj)⟩
theorem Rd.drop {α : Type} {enc : α → List Value} {k : Nat} {R : HP} {b o : Nat} {p r : List α} (hk : ∀ x, (enc x).length = k) (h : Rd R ⟨b, o, none⟩ ((p ++ r).flatMap enc)) : Rd R ⟨b, o + p.length * k, none⟩ (r.flatMap enc) := fun hp hr => by
  obtain ⟨cs, t, fr, h1, h2, h3⟩ := h hp hr
  refine ⟨cs, t, fr, h1, h2, fun j v hj => ?_⟩
  have := h3 (p.length * k + j) v (by
    rw [List.flatMap_append, List.getElem?_append_right (by rw [flat_len hk]; omega), flat_len hk]
    rw [show p.length * k + j - p.length * k = j by omega]; exact hj)
  rw [← Nat.add_assoc] at this; exact this
theorem own.rd {T : TypeId} {k : Nat} {b n cap : Nat} {cs : List Value} (hne : cs ≠ []) : Rd (own T k (some ⟨b, 0, none⟩) n cap cs) ⟨b, 0, none⟩ cs := fun h hh => by
  rcases own.rds h hh with h1 | ⟨b', o', h1, h2⟩
  · exact absurd h1 hne
  · simp only [Option.some.injEq, Addr.mk.injEq] at h1
    obtain ⟨rfl, rfl, _⟩ := h1
    obtain ⟨cs', t, fr, h3, h4⟩ := h2
    exact ⟨cs', t, fr, h3, rfl, h4⟩
def fillL {α : Type} (g : List α) (f : α → Int) (i : Nat) : List Int := (g.take i).map f ++ List.replicate (g.length - i) 0
theorem fillL_zero {α : Type} (g : List α) (f : α → Int) : fillL g f 0 = List.replicate g.length 0 := by simp [fillL]
theorem fillL_all {α : Type} (g : List α) (f : α → Int) : fillL g f g.length = g.map f := by simp [fillL]
theorem fillL_at {α : Type} {g : List α} {f : α → Int} {i : Nat} (h : i < g.length) : (fillL g f i)[i]? = some 0 := by
  unfold fillL
  rw [List.getElem?_append_right (by simp; omega)]
  rw [show i - ((g.take i).map f).length = 0 by simp; omega, List.getElem?_replicate, if_pos (by omega)]
theorem fillL_set {α : Type} {g : List α} {f : α → Int} {i : Nat} {x : α} (h : g[i]? = some x) : (fillL g f i).set i (f x) = fillL g f (i + 1) := by
  have hi := (List.getElem?_eq_some_iff.1 h).1
  unfold fillL
  rw [List.set_append_right _ _ (by simp; omega), show i - ((g.take i).map f).length = 0 by simp; omega]
  rw [show g.length - i = (g.length - (i + 1)) + 1 by omega, List.replicate_succ, List.set_cons_zero, List.take_add_one, h]
  simp
theorem zeros_flat (m : Nat) : (List.replicate m [I 0]).flatten = (List.replicate m (0 : Int)).flatMap Iv := by
  induction m with
  | zero => rfl
  | succ m ih => simp only [List.replicate_succ, List.flatten_cons, List.flatMap_cons, ih]; rfl
def okG (g : List Cl) : Bool := withinB (sumA g) && withinB (sumB g)
def accG (acc g : List Cl) (k : Ky) : List Cl := if okG g = true then acc ++ (if sumA g = 0 ∧ sumB g = 0 then [] else [⟨k, sumA g, sumB g⟩]) else acc
theorem within64 {n : Int} (h : withinB n = true) : i64 n := by unfold withinB at h; rw [decide_eq_true_eq] at h; unfold i64; omega
def ofL (xs : List Cl) : List Cl × Int := match sheetL xs with | some s => (s, 0) | none => ([], 4)
end Go.SL

namespace Go.SL
open Go
theorem code_size {s : ByteArray} (h : codeB s = true) : (s.size : Int) ≤ 12 := by
  with_unfolding_all
    unfold codeB at h
    simp only [Bool.and_eq_true, decide_eq_true_eq] at h
    exact h.1.2
theorem tg_size {t : Tg} (h : tgOk t = true) : (t.name.size : Int) ≤ 12 ∧ (t.value.size : Int) ≤ 12 := by
  unfold tgOk at h; rw [Bool.and_eq_true] at h; exact ⟨code_size h.1, code_size h.2⟩
theorem right_at {ts : List Tg} {i : Nat} {t : Tg} (h : rightB ts = true) (ht : ts[i]? = some t) : tgOk t = true := by
  unfold rightB at h; rw [Bool.and_eq_true] at h
  exact (okT_at.1 h.2 i t ht).1
theorem right_len {ts : List Tg} (h : rightB ts = true) : ts.length ≤ 6 := by
  unfold rightB at h; rw [Bool.and_eq_true, decide_eq_true_eq] at h; exact h.1
theorem app_size (a b : ByteArray) : (a ++ b).size = a.size + b.size := by simp
theorem comma_size : (ByteArray.size ⟨#[44]⟩) = 1 := rfl
theorem equals_size : (ByteArray.size ⟨#[61]⟩) = 1 := rfl
def rawF (e : En) (l : Ln) : Cl := ⟨⟨e.ent, l.acc, l.cur, l.partner, textV l.tags⟩, l.amt, l.base⟩
theorem raw_eq (e : En) : rawL e = e.lines.map (rawF e) := rfl
theorem raw_at {e : En} {i : Nat} {l : Ln} (h : e.lines[i]? = some l) : (rawL e).take (i + 1) = (rawL e).take i ++ [rawF e l] := take_step (by rw [raw_eq, List.getElem?_map, h]; rfl)
theorem cells_step {q : Qy} {l : List En} {i : Nat} {e : En} (h : l[i]? = some e) : cellsL q (l.take (i + 1)) = cellsL q (l.take i) ++ (if selB q e = true then rawL e else []) := by
  rw [take_step h]; unfold cellsL; rw [List.flatMap_append]; simp
theorem cells_len {q : Qy} : ∀ {l : List En}, (∀ e ∈ l, e.lines.length ≤ 100) → (cellsL q l).length ≤ 100 * l.length
  | [], _ => by simp [cellsL]
  | e :: r, h => by
    have ih := cells_len (q := q) (l := r) fun x hx => h x (by simp [hx])
    have he := h e (by simp)
    unfold cellsL at ih ⊢
    rw [List.flatMap_cons, List.length_append, List.length_cons]
    have : (if selB q e = true then rawL e else []).length ≤ 100 := by
      split
      · rw [raw_eq, List.length_map]; exact he
      · exact Nat.zero_le _
    omega
theorem cells_mem {q : Qy} {l : List En} {x : Cl} (h : x ∈ cellsL q l) : ∃ e ∈ l, ∃ y ∈ e.lines, x = rawF e y := by
  unfold cellsL at h
  obtain ⟨e, he, hx⟩ := List.mem_flatMap.1 h
  split at hx
  · rw [raw_eq] at hx
    obtain ⟨y, hy, rfl⟩ := List.mem_map.1 hx
    exact ⟨e, he, y, hy, rfl⟩
  · cases hx
theorem cells_64 {q : Qy} {R : HP} {l : List En} (h : ∀ e ∈ l, e.rd R) : ∀ x ∈ cellsL q l, i64 x.amt ∧ i64 x.base := fun x hx => by
  obtain ⟨e, he, y, hy, rfl⟩ := cells_mem hx
  exact ((h e he).2 y hy).2.2
theorem chk_len {e : En} (h : (chkN e).2 = 0) : e.lines.length ≤ 100 := by
  unfold chkN at h
  by_cases hh : headE e = 0
  · exact head_len hh
  · rw [if_neg hh] at h; exact absurd h hh
end Go.SL

namespace Go.SL
open Go
structure Rl where
  bad : Bool
  e : Int
def Rl.c (r : Rl) : List Value := [Bo r.bad, I r.e]
def firstE : List Rl → Int
  | [] => 0
  | r :: rs => if r.bad = true then r.e else firstE rs
def okR (rs : List Rl) (i : Nat) : Prop := ∀ (j : Nat) (r : Rl), j < i → rs[j]? = some r → r.bad = false
theorem first_all : ∀ {rs : List Rl}, (∀ r ∈ rs, r.bad = false) → firstE rs = 0
  | [], _ => rfl
  | r :: rs, h => by rw [firstE, if_neg (by rw [h r (by simp)]; decide)]; exact first_all fun x hx => h x (by simp [hx])
theorem first_at : ∀ {rs : List Rl} {i : Nat} {r : Rl}, okR rs i → rs[i]? = some r → r.bad = true → firstE rs = r.e
  | [], _, _, _, hr, _ => by simp at hr
  | x :: rs, 0, r, _, hr, hb => by simp at hr; subst hr; rw [firstE, if_pos hb]
  | x :: rs, i + 1, r, ho, hr, hb => by
    rw [firstE, if_neg (by rw [ho 0 x (by omega) rfl]; decide)]
    exact first_at (i := i) (fun j y hj hy => ho (j + 1) y (by omega) (by simpa using hy)) (by simpa using hr) hb
theorem okR.all {rs : List Rl} {i : Nat} (h : okR rs i) (hi : rs.length ≤ i) : firstE rs = 0 := first_all fun r hr => by
  obtain ⟨j, hj, rfl⟩ := List.getElem_of_mem hr
  exact h j _ (by omega) (List.getElem?_eq_getElem hj)
theorem first_pos : ∀ {rs : List Rl}, (∀ r ∈ rs, r.e ≠ 0) → (firstE rs = 0 ↔ ∀ r ∈ rs, r.bad = false)
  | [], _ => by simp [firstE]
  | r :: rs, h => by
    have ih := first_pos (rs := rs) fun x hx => h x (by simp [hx])
    rw [firstE]
    split
    · rename_i hb
      exact ⟨fun e => absurd e (h r (by simp)), fun e => by have := e r (by simp); rw [hb] at this; cases this⟩
    · rename_i hb
      rw [ih]
      exact ⟨fun e x hx => by { rcases List.mem_cons.1 hx with rfl | hx; exact Bool.eq_false_iff.2 hb; exact e x hx }, fun e x hx => e x (by simp [hx])⟩
theorem ris_iff : ∀ {ns : List ByteArray}, risB ns = true ↔ ∀ (j : Nat) (x y : ByteArray), ns[j]? = some x → ns[j + 1]? = some y → blt x y = true
  | [] => by simp [risB]
  | [s] => by simp [risB]
  | s :: t :: r => by
    have ih := ris_iff (ns := t :: r)
    rw [risB, Bool.and_eq_true, ih]
    constructor
    · intro h j x y hx hy
      cases j with
      | zero => simp at hx hy; subst hx; subst hy; exact h.1
      | succ j => exact h.2 j x y (by simpa using hx) (by simpa using hy)
    · intro h
      exact ⟨h 0 s t rfl rfl, fun j x y hx hy => h (j + 1) x y (by simpa using hx) (by simpa using hy)⟩
def risTo (ns : List ByteArray) (i : Nat) : Prop := ∀ (j : Nat) (x y : ByteArray), j + 1 < i → ns[j]? = some x → ns[j + 1]? = some y → blt x y = true
theorem risTo.one {ns : List ByteArray} : risTo ns 1 := fun j x y h => by omega
theorem risTo.step {ns : List ByteArray} {i : Nat} {x y : ByteArray} (h : risTo ns (i + 1)) (hx : ns[i]? = some x) (hy : ns[i + 1]? = some y) (hb : blt x y = true) : risTo ns (i + 2) := fun j u v hj hu hv => by
  by_cases e : j = i
  · subst e; rw [hx] at hu; rw [hy] at hv; cases hu; cases hv; exact hb
  · exact h j u v (by omega) hu hv
theorem risTo.all {ns : List ByteArray} {i : Nat} (h : risTo ns i) (hi : ns.length ≤ i) : risB ns = true := ris_iff.2 fun j x y hx hy => h j x y (by have := (List.getElem?_eq_some_iff.1 hy).1; omega) hx hy
theorem ris_not {ns : List ByteArray} {i : Nat} {x y : ByteArray} (hx : ns[i]? = some x) (hy : ns[i + 1]? = some y) (hb : blt x y = false) : risB ns = false := by
  rw [Bool.eq_false_iff]; intro h; rw [ris_iff.1 h i x y hx hy] at hb; cases hb
def codeTo (ns : List ByteArray) (i : Nat) : Prop := ∀ (j : Nat) (x : ByteArray), j < i → ns[j]? = some x → codeB x = true
theorem codeTo.all {ns : List ByteArray} {i : Nat} (h : codeTo ns i) (hi : ns.length ≤ i) : ns.all codeB = true := List.all_eq_true.2 fun x hx => by
  obtain ⟨j, hj, rfl⟩ := List.getElem_of_mem hx
  exact h j _ (by omega) (List.getElem?_eq_getElem hj)
theorem code_not {ns : List ByteArray} {i : Nat} {x : ByteArray} (hx : ns[i]? = some x) (hb : codeB x = false) : ns.all codeB = false := by
  rw [Bool.eq_false_iff]; intro h; rw [List.all_eq_true.1 h x (List.mem_of_getElem? hx)] at hb; cases hb
def Ac.st (a : Ac) : Ac := ⟨a.code, a.parent, a.kind, a.post, a.cur, a.mon, a.inter, none, 0, a.need⟩
abbrev Ac0 : Ac := ⟨bs0, bs0, 0, false, bs0, false, false, none, 0, []⟩
abbrev acF (a : Ac) : Value := St a.code
abbrev acG (a : Ac) : Value := .agg ⟨a.c⟩
theorem kAt_getL {code : ByteArray} : ∀ {m : List Ac}, getL m code = (kAt Ac.code code m).map Prod.snd
  | [] => rfl
  | a :: m => by
    have ih := kAt_getL (code := code) (m := m)
    unfold getL at ih ⊢
    rw [List.find?_cons, kAt]
    by_cases h : a.code = code
    · simp [h]
    · simp only [h, decide_false, Bool.false_eq_true, if_false, ih]
      cases kAt Ac.code code m <;> rfl
theorem gotL_none {code : ByteArray} {m : List Ac} (h : kAt Ac.code code m = none) : getL m code = none := by rw [kAt_getL, h]; rfl
theorem gotL_some {code : ByteArray} {m : List Ac} {q : Nat × Ac} (h : kAt Ac.code code m = some q) : getL m code = some q.2 := by rw [kAt_getL, h]; rfl
theorem get_st {code : ByteArray} : ∀ {m p : List Ac}, m.map Ac.st = p.map Ac.st → (getL m code).map Ac.st = (getL p code).map Ac.st
  | [], [], _ => rfl
  | [], _ :: _, h => by cases h
  | _ :: _, [], h => by cases h
  | a :: m, b :: p, h => by
    simp only [List.map_cons, List.cons.injEq] at h
    have ih := get_st (code := code) h.2
    have hc : a.code = b.code := by have := congrArg Ac.code h.1; exact this
    unfold getL at ih ⊢
    rw [List.find?_cons, List.find?_cons, hc]
    by_cases e : b.code = code
    · simp [e, h.1]
    · simpa [e] using ih
theorem par_st {code : ByteArray} {m p : List Ac} (h : m.map Ac.st = p.map Ac.st) : parOf m code = parOf p code := by
  have := get_st (code := code) h
  unfold parOf
  cases h1 : getL m code <;> cases h2 : getL p code <;> rw [h1, h2] at this <;> simp at this ⊢
  have e1 := congrArg Ac.parent this
  exact e1
theorem circN_st {code : ByteArray} {m p : List Ac} (h : m.map Ac.st = p.map Ac.st) : ∀ (n : Nat) (at_ : ByteArray), circN m code n at_ = circN p code n at_
  | 0, _ => rfl
  | n + 1, at_ => by rw [circN, circN, par_st h, circN_st h n]
theorem below_st {a : Ac} {m p : List Ac} (h : m.map Ac.st = p.map Ac.st) : belowB m a = belowB p a := by
  have := get_st (code := a.parent) h
  have hl : m.length = p.length := by have := congrArg List.length h; simpa using this
  unfold belowB circB
  rw [par_st h, hl, circN_st h]
  cases h1 : getL m a.parent <;> cases h2 : getL p a.parent <;> rw [h1, h2] at this <;> simp at this ⊢
  have e1 := congrArg Ac.kind this
  have e2 := congrArg Ac.post this
  simp only [Ac.st] at e1 e2
  rw [e1, e2]
theorem alone_st {a : Ac} {m p : List Ac} (h : m.map Ac.st = p.map Ac.st) : aloneB m a = aloneB p a := by
  have := get_st (code := a.code) h
  unfold aloneB
  cases h1 : getL m a.code <;> cases h2 : getL p a.code <;> rw [h1, h2] at this <;> simp at this ⊢
def aloneR (m : List Ac) (a : Ac) : List Rl := [⟨!namesB a, 7⟩, ⟨decide (a.kind < 1 ∨ 5 < a.kind), 10⟩, ⟨decide (a.cur ≠ bs0) && !curB a.cur, 13⟩, ⟨(getL m a.code).isSome, 8⟩, ⟨decide (6 < a.need.length) || !risB a.need, 14⟩]
def aloneE (m : List Ac) (a : Ac) : Int := firstE (aloneR m a)
theorem alone_zero {m : List Ac} {a : Ac} : aloneE m a = 0 ↔ aloneB m a = true := by
  unfold aloneE
  rw [first_pos (by simp [aloneR])]
  unfold aloneB aloneR
  cases namesB a <;> cases curB a.cur <;> cases hg : getL m a.code <;> cases risB a.need <;> simp [inB] <;> grind
def upOf (m : List Ac) (a : Ac) : Ac := (getL m a.parent).getD Ac0
def belowR (m : List Ac) (a : Ac) : List Rl := [⟨!(getL m a.parent).isSome, 28⟩, ⟨decide ((upOf m a).kind ≠ a.kind), 10⟩, ⟨(upOf m a).post, 12⟩, ⟨circB m a.code, 24⟩]
def belowE (m : List Ac) (a : Ac) : Int := if a.parent = bs0 then 0 else firstE (belowR m a)
theorem below_zero {m : List Ac} {a : Ac} : belowE m a = 0 ↔ belowB m a = true := by
  unfold belowE belowB
  by_cases h : a.parent = bs0
  · simp [h]
  · rw [if_neg h, first_pos (by simp [belowR])]
    unfold belowR upOf
    cases hg : getL m a.parent <;> simp [h]
    rename_i up
    cases up.post <;> cases circB m a.code <;> simp
theorem alone_new {m : List Ac} {a : Ac} (h : aloneE m a = 0) : kAt Ac.code a.code m = none := by
  have := alone_zero.1 h
  unfold aloneB at this
  simp only [Bool.and_eq_true] at this
  have h2 := this.1.2
  rw [kAt_getL] at h2
  cases hk : kAt Ac.code a.code m with
  | none => rfl
  | some q => rw [hk] at h2; cases h2
def aloneTo (xs : List Ac) (i : Nat) : Prop := ∀ (j : Nat) (a : Ac), j < i → xs[j]? = some a → aloneB (xs.take j) a = true
theorem alones_iff : ∀ {r p : List Ac}, alonesB p r = true ↔ ∀ (j : Nat) (a : Ac), r[j]? = some a → aloneB (p ++ r.take j) a = true
  | [], p => by simp [alonesB]
  | a :: r, p => by
    rw [alonesB, Bool.and_eq_true, alones_iff (r := r)]
    constructor
    · intro h j x hx
      cases j with
      | zero => simp at hx; subst hx; simpa using h.1
      | succ j => have := h.2 j x (by simpa using hx); rw [List.append_assoc] at this; exact this
    · intro h
      exact ⟨by simpa using h 0 a rfl, fun j x hx => by have := h (j + 1) x (by simpa using hx); rw [List.append_assoc]; exact this⟩
theorem chart_iff {xs : List Ac} : chartB xs = true ↔ xs.length ≤ 400 ∧ (∀ (j : Nat) (a : Ac), xs[j]? = some a → aloneB (xs.take j) a = true) ∧ ∀ (j : Nat) (a : Ac), xs[j]? = some a → belowB xs a = true := by
  unfold chartB
  rw [Bool.and_eq_true, Bool.and_eq_true, decide_eq_true_eq, alones_iff, List.all_eq_true]
  simp only [List.nil_append]
  constructor
  · intro h; exact ⟨h.1.1, h.1.2, fun j a ha => h.2 a (List.mem_of_getElem? ha)⟩
  · intro h; exact ⟨⟨h.1, h.2.1⟩, fun a ha => by obtain ⟨j, hj, rfl⟩ := List.getElem_of_mem ha; exact h.2.2 j _ (List.getElem?_eq_getElem hj)⟩
def Ac.put (a : Ac) (y : Option Addr × Nat) : Ac := ⟨a.code, a.parent, a.kind, a.post, a.cur, a.mon, a.inter, y.1, y.2, a.need⟩
theorem take_st {m xs : List Ac} {i : Nat} {a b : Ac} (h : m.map Ac.st = (xs.take i).map Ac.st) (ha : xs[i]? = some a) (hb : b.st = a.st) : (m ++ [b]).map Ac.st = (xs.take (i + 1)).map Ac.st := by
  rw [take_step ha, List.map_append, List.map_append, h, List.map_cons, List.map_cons, hb, List.map_nil]
def Ac.rd (R : HP) (a : Ac) : Prop := RdS R a.na (a.need.flatMap Sb) ∧ a.need.length ≤ 140737488355328 ∧ (a.cur.size : Int) ≤ 9223372036854775807
def lkA (m : List Ac) (c : ByteArray) : Ac := (getL m c).getD Ac0
theorem lk_kAt {m : List Ac} {c : ByteArray} : (match kAt Ac.code c m with | some q => acG q.2 | none => acG Ac0) = acG (lkA m c) := by
  unfold lkA; rw [kAt_getL]; cases kAt Ac.code c m <;> rfl
theorem par_lk {m : List Ac} {c : ByteArray} : (lkA m c).parent = parOf m c := by
  unfold lkA parOf; cases getL m c <;> rfl
section
variable {P : Program} {β : Base} {E : Env} {L M : List HP} {K : Value → List HP → Prop} {d : Option Tmp} {ty : TypeId} {pos : String} {af : Array Edge} {gd : Option (Nat × Bool)} {x y : Operand} {t kt et : TypeId} {b : Nat}
theorem OpJ.lookupA1 {m : List Ac} {c : ByteArray} (Mp : MPI P t kt et) (U : UI P kt .string) (Z : ZVI P et (acG Ac0)) (hx : E.ev x = some (.map (some b))) (hy : E.ev y = some (St c)) (p : Pick L (amap b acF acG m) M)
    (h : K (acG (lkA m c)) L) : OpJ P β E L ⟨d, .lookup t x y false, ty, pos, af, gd⟩ K :=
  OpJ.lookup1 keyStr Mp U Z hx hy p (by rw [← lk_kAt] at h; revert h; cases kAt Ac.code c m <;> exact fun h => h)
theorem OpJ.lookupA2 {m : List Ac} {c : ByteArray} (Mp : MPI P t kt et) (U : UI P kt .string) (Z : ZVI P et (acG Ac0)) (hx : E.ev x = some (.map (some b))) (hy : E.ev y = some (St c)) (p : Pick L (amap b acF acG m) M)
    (h : K (.tuple ⟨[acG (lkA m c), .bool (getL m c).isSome]⟩) L) : OpJ P β E L ⟨d, .lookup t x y true, ty, pos, af, gd⟩ K :=
  OpJ.lookup2 keyStr Mp U Z hx hy p (by rw [← lk_kAt, kAt_getL] at h; revert h; cases kAt Ac.code c m <;> exact fun h => h)
end
theorem circ_true {m : List Ac} {code at_ : ByteArray} {n : Nat} (h : at_ = code) : circN m code (n + 1) at_ = true := by rw [circN, if_pos h]
theorem circ_step {m : List Ac} {code at_ : ByteArray} {n : Nat} (h : ¬ at_ = code) : circN m code (n + 1) at_ = circN m code n (parOf m at_) := by rw [circN, if_neg h]
attribute [irreducible] firstE
end Go.SL

namespace Go.SL
open Go Go.Shelf
section
variable {P : Program} {β : Base} {E : Env} {L L' M M' : List HP} {K : Value → List HP → Prop} {d : Option Tmp} {ty : TypeId} {pos : String} {af : Array Edge} {gd : Option (Nat × Bool)} {x y : Operand} {t kt et : TypeId}
theorem OpJ.lenM {α : Type} {f g : α → Value} {xs : List α} {b : Nat} (Mp : MPI P t kt et) (hx : E.ev x = some (.map (some b))) (p : Pick L (amap b f g xs) M) (h : K (.int .i64 (xs.length : Int)) L) : OpJ P β E L ⟨d, .call ⟨.builtin .len, #[x], #[t]⟩, ty, pos, af, gd⟩ K :=
  OpJ.same (fun a w ha hs => by
    have hb := hs.heap p
    simp [execOp, resolve, invoke, builtin, Builtin.len_, ha.ev hx, run_underlying Mp.eq, MapKept.run_getObj_map hb, goInt, ents, entsF_len, Result.andThen]) h
end
theorem RunD.takeGR {P : Program} {β : Base} {nn : Nat} {ops : Array Oper} {fuel : Nat} {listed : Array Bool} {pend : Pend} {E : Env} {L M : List HP} {K : Env → List HP → Prop} (i : Nat) {m jg : Nat} {gb : Bool} {gd : Tmp} {ad : Addr} {R : HP} {vs : List Value} {x : Operand} {t : TypeId} {d : Option Tmp} {ty : TypeId} {pos : String} {af : Array Edge} (hi : ops[i]? = some ⟨d, .load t x, ty, pos, af, some (jg, gb)⟩) (hj : (ops[jg]?).bind (·.dst) = some gd) (hgb : E.get gd = some (.bool gb)) (hd : dstOk nn d = true)
    (hchk : (Region.noSelect ops && Region.free .any ops listed i && (Region.ready .any ops listed).contains i) = true) (T : TI P t true m) (hx : E.ev x = some (.pointer (some ad))) (p : Pick L R M) (hr : Rd R ad vs) (hn : vs.length = m)
    (h : RunD P β nn ops fuel (listed.setIfInBounds i true) ((i, [R]) :: pend) (E.put d (.agg ⟨vs⟩)) L K) : RunD P β nn ops (fuel + 1) listed pend E L K :=
  RunD.takeG (Ls := [R]) i hi rfl hj hgb hd hchk (DetJ.loadA T hx .here hr hn) (.cons p .nil) h
end Go.SL

namespace Go.SL
open Go
def SortV (o : List Mv) : Prop := ∀ (i j : Nat) (x y : Mv), i ≤ j → o[i]? = some x → o[j]? = some y → x.value ≤ y.value
theorem SortV.mono {o : List Mv} (h : SortV o) (v : Int) : Mono (laterB v) o := fun i j x y hij hx hy hp => by
  have := h i j x y hij hx hy
  simp only [laterB, decide_eq_true_eq] at hp ⊢; omega
theorem ins_get {α : Type} {o : List α} {n : Nat} {x : α} (hn : n ≤ o.length) (i : Nat) : (o.take n ++ x :: o.drop n)[i]? = if i < n then o[i]? else if i = n then some x else o[i - 1]? := by
  have hl : (o.take n).length = n := by rw [List.length_take]; omega
  by_cases h : i < n
  · rw [if_pos h, List.getElem?_append_left (by omega), List.getElem?_take_of_lt h]
  · rw [if_neg h, List.getElem?_append_right (by omega), hl]
    by_cases h2 : i = n
    · subst h2; simp
    · rw [if_neg h2, show i - n = (i - n - 1) + 1 by omega, List.getElem?_cons_succ, List.getElem?_drop]
      congr 1; omega
theorem SortV.ins {o : List Mv} (h : SortV o) (m : Mv) : SortV (insB (laterB m.value) m o) := by
  have hc := cutN_le (p := laterB m.value) (o := o)
  rw [insB_eq]
  intro i j x y hij hx hy
  rw [ins_get hc] at hx hy
  have lo : ∀ a z, a < cutN (laterB m.value) o → o[a]? = some z → z.value ≤ m.value := fun a z ha hz => by
    have := cutN_lt ha hz
    simp only [laterB, decide_eq_false_iff_not] at this; omega
  have hi : ∀ a z, cutN (laterB m.value) o ≤ a → o[a]? = some z → m.value ≤ z.value := fun a z ha hz => by
    have := (cutN_iff (h.mono m.value) hz).2 ha
    simp only [laterB, decide_eq_true_eq] at this; omega
  split at hx
  · split at hy
    · exact h _ _ _ _ hij hx hy
    · split at hy
      · cases hy; exact lo _ _ (by assumption) hx
      · exact h _ _ _ _ (by omega) hx hy
  · split at hx
    · cases hx
      split at hy
      · omega
      · split at hy
        · cases hy; exact Int.le_refl _
        · exact hi _ _ (by omega) hy
    · split at hy
      · omega
      · split at hy
        · omega
        · exact h _ _ _ _ (by omega) hx hy
theorem ordM_sort (ms : List Mv) : SortV (ordM ms) := by
  suffices H : ∀ (ms o : List Mv), SortV o → SortV (ms.foldl (fun o m => insB (laterB m.value) m o) o) from H ms [] (fun i j x y _ hx => by simp at hx)
  intro ms
  induction ms with
  | nil => intro o h; exact h
  | cons m ms ih => intro o h; exact ih _ (h.ins m)
theorem ordM_len (ms : List Mv) : (ordM ms).length = ms.length := (ordM_perm ms).length_eq
structure IdxI (ms : List Mv) (ord : List Int) : Prop where
  len : ord.length = ms.length
  idx : ∀ (i : Nat) (y : Int), ord[i]? = some y → ∃ (q : Nat) (m : Mv), y = (q : Int) ∧ ms[q]? = some m ∧ (ordM ms)[i]? = some m
  dis : ord.Nodup
theorem IdxI.nil : IdxI [] [] := ⟨rfl, fun i y h => by simp at h, List.nodup_nil⟩
theorem IdxI.mono {ms : List Mv} {ord : List Int} (h : IdxI ms ord) (v : Int) : Mono (dnB ms v) ord := fun i j x y hij hx hy hp => by
  obtain ⟨q, m, rfl, hq, hs⟩ := h.idx i x hx
  obtain ⟨r, n, rfl, hr, ht⟩ := h.idx j y hy
  have := ordM_sort ms i j m n hij hs ht
  unfold dnB at hp ⊢
  rw [show ((q : Int)).toNat = q from rfl, hq] at hp
  rw [show ((r : Int)).toNat = r from rfl, hr]
  simp only [Option.map_some, Option.getD_some, decide_eq_true_eq] at hp ⊢; omega
theorem IdxI.cut {ms : List Mv} {ord : List Int} (h : IdxI ms ord) (v : Int) : cutN (dnB ms v) ord = cutN (laterB v) (ordM ms) := by
  refine cutN_mid (by rw [h.len, ← ordM_len]; exact cutN_le) (fun i y hi hy => ?_) (fun y hy => ?_)
  · obtain ⟨q, m, rfl, hq, hs⟩ := h.idx i y hy
    have := cutN_lt hi hs
    unfold dnB
    rw [show ((q : Int)).toNat = q from rfl, hq]
    exact this
  · obtain ⟨q, m, rfl, hq, hs⟩ := h.idx _ y hy
    have := cutN_at hs
    unfold dnB
    rw [show ((q : Int)).toNat = q from rfl, hq]
    exact this
theorem IdxI.ins {ms : List Mv} {ord : List Int} (h : IdxI ms ord) (m : Mv) : IdxI (ms ++ [m]) (insN ord (cutN (dnB ms m.value) ord) (ms.length : Int)) := by
  have hc := cutN_le (p := laterB m.value) (o := ordM ms)
  have hc2 := cutN_le (p := dnB ms m.value) (o := ord)
  have up : ∀ (i : Nat) (y : Int), ord[i]? = some y → ∃ (q : Nat) (x : Mv), y = (q : Int) ∧ (ms ++ [m])[q]? = some x ∧ (ordM ms)[i]? = some x := fun i y hy => by
    obtain ⟨q, x, e, hq, hs⟩ := h.idx i y hy
    exact ⟨q, x, e, by rw [List.getElem?_append_left (List.getElem?_eq_some_iff.1 hq).1]; exact hq, hs⟩
  refine ⟨by rw [insN_len hc2, h.len]; simp, fun i y hy => ?_, ?_⟩
  · unfold insN at hy
    rw [ins_get hc2] at hy
    rw [h.cut] at hy
    rw [ordM_app, insB_eq, ins_get hc]
    by_cases h1 : i < cutN (laterB m.value) (ordM ms)
    · rw [if_pos h1] at hy ⊢; exact up i y hy
    · rw [if_neg h1] at hy ⊢
      by_cases h2 : i = cutN (laterB m.value) (ordM ms)
      · rw [if_pos h2] at hy ⊢
        cases hy
        exact ⟨ms.length, m, rfl, by simp, rfl⟩
      · rw [if_neg h2] at hy ⊢; exact up _ y hy
  · unfold insN
    have hp : (ord.take (cutN (dnB ms m.value) ord) ++ (ms.length : Int) :: ord.drop (cutN (dnB ms m.value) ord)).Perm ((ms.length : Int) :: ord) := by
      refine List.perm_middle.trans ?_
      rw [List.take_append_drop]
    refine hp.nodup_iff.2 (List.nodup_cons.2 ⟨fun hm => ?_, h.dis⟩)
    obtain ⟨i, hi⟩ := List.getElem?_of_mem hm
    obtain ⟨q, x, e, hq, _⟩ := h.idx i _ hi
    have := (List.getElem?_eq_some_iff.1 hq).1
    omega
theorem chkL_ne : ∀ {ms done : List Mv} {p : Nat × Int}, chkL done ms = some p → p.2 ≠ 0
  | [], done, p, h => by cases h
  | x :: ms, done, p, h => by
    simp only [chkL] at h
    split at h
    · cases h; show (17 : Int) ≠ 0; decide
    split at h
    · cases h; assumption
    split at h
    · rename_i h3; cases h; exact h3.2
    · exact chkL_ne h
theorem chkE_none {ms : List Mv} : chkE ms = 0 ↔ chkM ms = none := by
  unfold chkE
  cases h : chkM ms with
  | none => simp
  | some p =>
    have : p.2 ≠ 0 := by
      unfold chkM at h
      split at h
      · cases h; decide
      · exact chkL_ne h
    simp [this]
structure EngI (g : Eg) (p : Int) (KL KP : HP) : Prop where
  len : g.ms.length ≤ 2000
  fine : Fine g.ms
  ix : IdxI g.ms g.ord
  kl : g.kp.length = g.ms.length / 16 + 1
  kp : ∀ (j : Nat) (x : Ks), g.kp[j]? = some x → Before g.k (start0 g.k p) (ordM g.ms) (16 * j) x.s ∧ KsR KL KP x
  cr : KsR KL KP g.last
  st : startE g.k p = 0
  cl : g.cs.length = g.ms.length
  run : ∃ cs0, runL (stepM g.k) (start0 g.k p) (ordM g.ms) = .ok (g.last.s, cs0) ∧ ∀ (i q : Nat), g.ord[i]? = some (q : Int) → g.cs[q]? = cs0[i]?
theorem ordM_pre {ms : List Mv} {m : Mv} {n : Nat} (h : n ≤ cutN (laterB m.value) (ordM ms)) : (ordM (ms ++ [m])).take n = (ordM ms).take n := by
  have hc := cutN_le (p := laterB m.value) (o := ordM ms)
  rw [ordM_app, insB_eq, List.take_append_of_le_length (by rw [List.length_take]; omega), List.take_take, Nat.min_eq_left h]
abbrev addAt (g : Eg) (m : Mv) : Nat := cutN (dnB g.ms m.value) g.ord
abbrev addOrd (g : Eg) (m : Mv) : List Int := insN g.ord (addAt g m) (g.ms.length : Int)
def addRun (g : Eg) (p : Int) (m : Mv) : Except (Nat × Int) (Sk × List Co) := runL (stepM g.k) (start0 g.k p) (ordM (g.ms ++ [m]))
def Co0 : Co := ⟨0, 0, 0, 0⟩
def newCs (kv : List KV) (cs : List Co) (cs1 : List Co) : Prop := cs1.length = cs.length ∧ ∀ q, q < cs.length → cs1[q]? = match kAt (Prod.fst : KV → Int) (q : Int) kv with | some x => some x.2.2 | none => cs[q]?
structure AddO where
  g : Eg
  mo : Option Addr
  mc : Nat
  co : Option Addr
  cc : Nat
  oo : Option Addr
  oc : Nat
  ko : Option Addr
  kc : Nat
  ja : Option Addr
  jc : Nat
  KL : HP
  KP : HP
theorem EngI.grow {g : Eg} {p : Int} {KL KP KL' KP' : HP} (h : EngI g p KL KP) (h1 : Grow KL KL') (h2 : Grow KP KP') : EngI g p KL' KP' := ⟨h.len, h.fine, h.ix, h.kl, fun j x hx => ⟨(h.kp j x hx).1, (h.kp j x hx).2.grow h1 h2⟩, h.cr.grow h1 h2, h.st, h.cl, h.run⟩
def leftC (n : Nat) (seen : Array Nat) : Nat := ((List.range n).filter fun j => !seen.contains j).length
theorem leftC_push {n i : Nat} {seen : Array Nat} (hi : i < n) (h : i ∉ seen) : leftC n (seen.push i) < leftC n seen :=
  filter_lt (fun j => !seen.contains j) (fun j => !(seen.push i).contains j) (fun x hx => by
    rw [contains_push] at hx
    cases hc : seen.contains x with
    | false => rfl
    | true => rw [hc, Bool.true_or] at hx; exact absurd hx (by decide)) i (by simpa using h) (by rw [contains_push, beq_self_eq_true, Bool.or_true]; rfl) (List.range n) (List.mem_range.2 hi)
theorem kAt_at {α κ : Type} [DecidableEq κ] {kf : α → κ} : ∀ {xs : List α} {i : Nat} {y : α}, (xs.map kf).Nodup → xs[i]? = some y → kAt kf (kf y) xs = some (i, y)
  | [], i, y, _, h => by simp at h
  | x :: xs, 0, y, _, h => by simp only [List.getElem?_cons_zero, Option.some.injEq] at h; subst h; simp [kAt]
  | x :: xs, i + 1, y, hn, h => by
    simp only [List.getElem?_cons_succ] at h
    simp only [List.map_cons, List.nodup_cons] at hn
    have hne : ¬ kf x = kf y := fun e => hn.1 (e ▸ List.mem_map_of_mem (List.mem_of_getElem? h))
    simp only [kAt, if_neg hne, kAt_at hn.2 h]
    rfl
structure PartC (kv : List KV) (seen : Array Nat) (cs cs1 : List Co) : Prop where
  len : cs1.length = cs.length
  at_ : ∀ q, q < cs.length → cs1[q]? = match kAt (Prod.fst : KV → Int) (q : Int) kv with | some x => if x.1 ∈ seen then some x.2.2 else cs[q]? | none => cs[q]?
theorem PartC.start {kv : List KV} {cs : List Co} : PartC kv #[] cs cs := ⟨rfl, fun q hq => by split <;> simp⟩
theorem PartC.next {kv : List KV} {seen : Array Nat} {cs cs1 : List Co} {i q : Nat} {c : Co} (h : PartC kv seen cs cs1) (hn : (kv.map Prod.fst).Nodup) (hi : kv[i]? = some ((q : Int), c)) (hq : q < cs.length) : PartC kv (seen.push i) cs (cs1.set q c) := by
  have hk := kAt_at (kf := (Prod.fst : KV → Int)) hn hi
  have hl := h.len
  refine ⟨by rw [List.length_set]; exact hl, fun r hr => ?_⟩
  by_cases e : q = r
  · subst e
    simp only [hk]
    rw [List.getElem?_set_self (by omega)]
    simp
  · rw [List.getElem?_set_ne e, h.at_ r hr]
    cases hr' : kAt (Prod.fst : KV → Int) (r : Int) kv with
    | none => rfl
    | some x =>
      have hs := kAt_some hr'
      have hne : x.1 ≠ i := fun e2 => e (by
        have h1 := hs.1
        rw [e2, hi] at h1
        have h2 := hs.2
        simp only [Option.some.injEq] at h1
        rw [← h1] at h2
        simp only at h2
        omega)
      simp only [Array.mem_push]
      by_cases hm : x.1 ∈ seen
      · simp [hm]
      · simp [hm, hne]
theorem IdxI.mem {ms : List Mv} {ord : List Int} (h : IdxI ms ord) : ∀ y ∈ ord, ∃ (i : Nat) (m : Mv), y = (i : Int) ∧ ms[i]? = some m := fun y hy => by
  obtain ⟨i, hi⟩ := List.getElem?_of_mem hy
  obtain ⟨q, m, e, hq, _⟩ := h.idx i y hi
  exact ⟨q, m, e, hq⟩
theorem zip_sub {α γ : Type} : ∀ (xs : List α) (ys : List γ), List.Sublist ((xs.zip ys).map Prod.fst) xs
  | [], _ => by simp
  | x :: xs, [] => by simp
  | x :: xs, y :: ys => by simp only [List.zip_cons_cons, List.map_cons]; exact (zip_sub xs ys).cons_cons x
theorem kv_keys {ord : List Int} {cs : List Co} {n : Nat} (hd : ord.Nodup) : ((kvOf ord cs n).map Prod.fst).Nodup := by
  unfold kvOf
  exact (((List.drop_sublist n (ord.zip cs)).map Prod.fst).trans (zip_sub ord cs)).nodup hd
theorem kv_get {ord : List Int} {cs : List Co} {n i : Nat} : (kvOf ord cs n)[i]? = (ord.zip cs)[n + i]? := by unfold kvOf; rw [List.getElem?_drop]
theorem EngI.add {g : Eg} {p : Int} {KL KP KL' KP' : HP} {m : Mv} {t : Sk} {cs0 cs1 : List Co} {x : Ks} {kp' : List Ks} (h : EngI g p KL KP) (hf : chkE (g.ms ++ [m]) = 0) (hr : addRun g p m = .ok (t, cs0)) (ox : x.s = t)
    (hF : RunF g (start0 g.k p) (ordM (g.ms ++ [m])) KL KP KL' KP' x kp') (hN : newCs (kvOf (addOrd g m) cs0 (16 * (addAt g m / 16))) (g.cs ++ [Co0]) cs1) : EngI ⟨g.k, g.ms ++ [m], cs1, addOrd g m, kp', x⟩ p KL' KP' := by
  have hfi := chkM_none.1 (chkE_none.1 hf)
  have hi := h.ix.ins m
  have hc := h.ix.cut m.value
  have hcl := cutN_le (p := laterB m.value) (o := ordM g.ms)
  have hc2 : addAt g m ≤ g.ord.length := cutN_le
  have hol := h.ix.len
  have hgl := h.cl
  have hl0 := runL_len hr
  rw [ordM_len, List.length_append, List.length_singleton] at hl0
  refine ⟨hfi.1, hfi.2, hi, by rw [hF.kl, ordM_len], hF.kp, hF.cr, h.st, by rw [hN.1, List.length_append, List.length_append, hgl]; rfl, cs0, by rw [ox]; exact hr, fun i q hq => ?_⟩
  have hqm : q < g.ms.length + 1 := by
    obtain ⟨r, y, e, hy, _⟩ := hi.idx i _ hq
    have := (List.getElem?_eq_some_iff.1 hy).1
    rw [List.length_append, List.length_singleton] at this; omega
  have hn := hN.2 q (by rw [List.length_append, List.length_singleton]; omega)
  have hil : i < g.ms.length + 1 := by
    have := (List.getElem?_eq_some_iff.1 hq).1
    have h2 : (addOrd g m).length = (g.ms ++ [m]).length := hi.len
    rw [List.length_append, List.length_singleton] at h2
    exact h2 ▸ this
  obtain ⟨c, hcc⟩ : ∃ c, cs0[i]? = some c := ⟨_, List.getElem?_eq_getElem (by omega)⟩
  have hz : (addOrd g m |>.zip cs0)[i]? = some ((q : Int), c) := List.getElem?_zip_eq_some.2 ⟨hq, hcc⟩
  by_cases hi16 : i < 16 * (addAt g m / 16)
  · have hnone : kAt (Prod.fst : KV → Int) (q : Int) (kvOf (addOrd g m) cs0 (16 * (addAt g m / 16))) = none := by
      refine kAt_no fun y hy e => ?_
      obtain ⟨j, hj⟩ := List.getElem?_of_mem hy
      rw [kv_get] at hj
      obtain ⟨a, b⟩ := y
      obtain ⟨h1, _⟩ := List.getElem?_zip_eq_some.1 hj
      simp only at e
      subst e
      have := (List.getElem?_inj (List.getElem?_eq_some_iff.1 hq).1 hi.dis).1 (hq.trans h1.symm)
      omega
    rw [hnone] at hn
    have hia : i < addAt g m := by omega
    have hgo : g.ord[i]? = some (q : Int) := by
      have : (addOrd g m)[i]? = g.ord[i]? := by
        show (insN g.ord (addAt g m) _)[i]? = _
        unfold insN; rw [ins_get hc2, if_pos hia]
      rw [← this]; exact hq
    obtain ⟨cs', hrun, hcs⟩ := h.run
    have hq2 : q < g.ms.length := by
      obtain ⟨r, y, e, hy, _⟩ := h.ix.idx i _ hgo
      have := (List.getElem?_eq_some_iff.1 hy).1
      omega
    show cs1[q]? = cs0[i]?
    rw [hn]
    simp only
    rw [List.getElem?_append_left (by omega), hcs i q hgo]
    have hlo := ordM_len g.ms
    have hln := ordM_len (g.ms ++ [m])
    rw [List.length_append, List.length_singleton] at hln
    obtain ⟨u1, e1⟩ := runL_take_ok hrun (n := addAt g m) (by omega)
    obtain ⟨u2, e2⟩ := runL_take_ok hr (n := addAt g m) (by omega)
    rw [ordM_pre (by rw [← hc]; exact Nat.le_refl _), e1] at e2
    have he : cs'.take (addAt g m) = cs0.take (addAt g m) := by simpa using (congrArg (fun r => match r with | Except.ok x => x.2 | .error _ => []) e2)
    rw [← List.getElem?_take_of_lt hia, he, List.getElem?_take_of_lt hia]
  · have hk : kAt (Prod.fst : KV → Int) (q : Int) (kvOf (addOrd g m) cs0 (16 * (addAt g m / 16))) = some (i - 16 * (addAt g m / 16), ((q : Int), c)) :=
      kAt_at (kf := (Prod.fst : KV → Int)) (y := ((q : Int), c)) (kv_keys hi.dis) (by rw [kv_get, show 16 * (addAt g m / 16) + (i - 16 * (addAt g m / 16)) = i by omega]; exact hz)
    rw [hk] at hn
    show cs1[q]? = cs0[i]?
    rw [hn, hcc]
end Go.SL

namespace Go.SL
open Go
theorem leftC_le {n : Nat} {seen : Array Nat} : leftC n seen ≤ n := by
  unfold leftC; exact Nat.le_trans (List.length_filter_le ..) (by rw [List.length_range]; exact Nat.le_refl _)
structure Kd where
  code : ByteArray
  a : Option Addr
  c : Nat
  l : List ByteArray
abbrev kdF (x : Kd) : Value := St x.code
abbrev kdG (x : Kd) : Value := .slice x.a x.l.length x.c
def kdH (T : TypeId) (x : Kd) : HP := own T 1 x.a x.l.length x.c (x.l.flatMap Sb)
def kdAt (ks : List Kd) (p : ByteArray) : Kd := match kAt Kd.code p ks with | some q => q.2 | none => ⟨p, none, 0, []⟩
def kRest (T : TypeId) (ks : List Kd) (p : ByteArray) : HP := match kAt Kd.code p ks with | some q => big (kdH T) (ks.eraseIdx q.1) | none => big (kdH T) ks
theorem kd_le {ks : List Kd} {p : ByteArray} {n : Nat} (h : ∀ x ∈ ks, x.l.length ≤ n) : (kdAt ks p).l.length ≤ n := by
  unfold kdAt
  cases hk : kAt Kd.code p ks with
  | none => exact Nat.zero_le _
  | some q => exact h _ (List.mem_of_getElem? (kAt_some hk).1)
theorem kd_set {ks : List Kd} {y : Kd} {n : Nat} (h : ∀ x ∈ ks, x.l.length ≤ n) (hy : y.l.length ≤ n) : ∀ x ∈ kSet Kd.code y ks, x.l.length ≤ n := fun x hx => by
  unfold kSet at hx
  cases hk : kAt Kd.code y.code ks with
  | none => rw [hk] at hx; rcases List.mem_append.1 hx with hx | hx; exact h x hx; rw [List.mem_singleton.1 hx]; exact hy
  | some q => rw [hk] at hx; rcases List.mem_or_eq_of_mem_set hx with hx | rfl; exact h x hx; exact hy
theorem k_out {T : TypeId} {ks : List Kd} {p : ByteArray} : ∀ h, big (kdH T) ks h → star (own T 1 (kdAt ks p).a (kdAt ks p).l.length (kdAt ks p).c ((kdAt ks p).l.flatMap Sb)) (kRest T ks p) h := fun h hb => by
  unfold kdAt kRest
  cases hk : kAt Kd.code p ks with
  | none =>
    exact (⟨fun _ => none, h, fun b => .inl rfl, by funext b; simp [Hp.add], ⟨rfl, Nat.le_refl _, .inl ⟨rfl, fun _ => rfl⟩⟩, hb⟩ : star (own T 1 none 0 0 []) (big (kdH T) ks) h)
  | some q => exact big_out (f := kdH T) (kAt_some (x := q.2) (i := q.1) hk).1 h hb
theorem k_in {T : TypeId} {ks : List Kd} {y : Kd} : ∀ h, star (own T 1 y.a y.l.length y.c (y.l.flatMap Sb)) (kRest T ks y.code) h → big (kdH T) (kSet Kd.code y ks) h := fun h hb => by
  unfold kSet; unfold kRest at hb
  cases hk : kAt Kd.code y.code ks with
  | none => rw [hk] at hb; exact big_app (f := kdH T) h hb
  | some q =>
    rw [hk] at hb
    exact big_in (f := kdH T) (List.getElem?_eq_some_iff.1 (kAt_some (x := q.2) (i := q.1) hk).1).1 h hb
def ndH (T : TypeId) (a : Ac) : HP := own T 1 a.na a.need.length a.nc (a.need.flatMap Sb)
structure Chv where
  b : Nat
  bm : Nat
  v : Value
  w : Value
  m : List Ac
theorem alone_len {m : List Ac} {a : Ac} (h : aloneE m a = 0) : a.need.length ≤ 6 := by
  have := alone_zero.1 h
  unfold aloneB at this
  simp only [Bool.and_eq_true, decide_eq_true_eq] at this
  exact this.2.1
theorem chart_alone {xs m : List Ac} {i : Nat} {a : Ac} (hm : m.map Ac.st = (xs.take i).map Ac.st) (ha : xs[i]? = some a) (h : ¬ aloneE m a = 0) : ¬ chartB xs = true := fun hc => h (alone_zero.2 (by rw [alone_st hm]; exact (chart_iff.1 hc).2.1 i a ha))
theorem chart_below {xs m : List Ac} {i : Nat} {a : Ac} (hm : m.map Ac.st = xs.map Ac.st) (ha : xs[i]? = some a) (h : ¬ belowE m a = 0) : ¬ chartB xs = true := fun hc => h (below_zero.2 (by rw [below_st hm]; exact (chart_iff.1 hc).2.2 i a ha))
def belowTo (xs : List Ac) (i : Nat) : Prop := ∀ (j : Nat) (a : Ac), j < i → xs[j]? = some a → belowB xs a = true
theorem aloneTo.step {xs m : List Ac} {i : Nat} {a : Ac} (h : aloneTo xs i) (hm : m.map Ac.st = (xs.take i).map Ac.st) (ha : xs[i]? = some a) (h0 : aloneE m a = 0) : aloneTo xs (i + 1) := fun j y hj hy => by
  by_cases e : j = i
  · subst e; rw [ha] at hy; cases hy; rw [← alone_st hm]; exact alone_zero.1 h0
  · exact h j y (by omega) hy
theorem belowTo.step {xs m : List Ac} {i : Nat} {a : Ac} (h : belowTo xs i) (hm : m.map Ac.st = xs.map Ac.st) (ha : xs[i]? = some a) (h0 : belowE m a = 0) : belowTo xs (i + 1) := fun j y hj hy => by
  by_cases e : j = i
  · subst e; rw [ha] at hy; cases hy; rw [← below_st hm]; exact below_zero.1 h0
  · exact h j y (by omega) hy
theorem chart_good {xs : List Ac} (h1 : xs.length ≤ 400) (h2 : aloneTo xs xs.length) (h3 : belowTo xs xs.length) : chartB xs = true :=
  chart_iff.2 ⟨h1, fun j a ha => h2 j a (List.getElem?_eq_some_iff.1 ha).1 ha, fun j a ha => h3 j a (List.getElem?_eq_some_iff.1 ha).1 ha⟩
theorem st_len {m xs : List Ac} (h : m.map Ac.st = xs.map Ac.st) : m.length = xs.length := by have := congrArg List.length h; simpa using this
section
variable {P : Program} {β : Base} {n : Nat} {arr : Array Oper} {os : List Oper} {E : Env} {L L' M M' : List HP} {KK : Env → List HP → Prop} {T : TypeId} {ks : List Kd}
theorem RunL.kOut (p : ByteArray) (hp : Pick L (big (kdH T) ks) M) (h : RunL P β n arr os E (own T 1 (kdAt ks p).a (kdAt ks p).l.length (kdAt ks p).c ((kdAt ks p).l.flatMap Sb) :: kRest T ks p :: M) KK) : RunL P β n arr os E L KK :=
  RunL.mapL (fun w hs => Has.mono hs (pick_map hp k_out)) h
theorem RunL.kIn (T : TypeId) (ks : List Kd) (y : Kd) (hp : Pick L (own T 1 y.a y.l.length y.c (y.l.flatMap Sb)) M) (hq : Pick M (kRest T ks y.code) M') (h : RunL P β n arr os E (big (kdH T) (kSet Kd.code y ks) :: M') KK) : RunL P β n arr os E L KK :=
  RunL.mapL (fun w hs => Has.mono hs (pick_join hp hq k_in)) h
end
section
variable {P : Program} {β : Base} {E : Env} {L M : List HP} {K : Value → List HP → Prop} {d : Option Tmp} {ty : TypeId} {pos : String} {af : Array Edge} {gd : Option (Nat × Bool)} {x y : Operand} {t kt et : TypeId} {b : Nat}
theorem OpJ.lookupK {ks : List Kd} {c : ByteArray} (Mp : MPI P t kt et) (U : UI P kt .string) (Z : ZVI P et (.slice none 0 0)) (hx : E.ev x = some (.map (some b))) (hy : E.ev y = some (St c)) (p : Pick L (amap b kdF kdG ks) M)
    (h : K (.slice (kdAt ks c).a (kdAt ks c).l.length (kdAt ks c).c) L) : OpJ P β E L ⟨d, .lookup t x y false, ty, pos, af, gd⟩ K :=
  OpJ.lookup1 keyStr Mp U Z hx hy p (by unfold kdAt at h; revert h; cases kAt Kd.code c ks <;> exact fun h => h)
end
end Go.SL

namespace Go.SL
open Go Go.Proofs Go.Shelf Go.Sort
def srtS (ss : List ByteArray) : List ByteArray := ((ss.map fun s => s.data.toList).mergeSort fun x y => decide (x ≤ y)).map fun l => ⟨l.toArray⟩
theorem srtS_len (ss : List ByteArray) : (srtS ss).length = ss.length := by unfold srtS; rw [List.length_map, List.length_mergeSort, List.length_map]
theorem sb_map (ss : List ByteArray) : ss.flatMap Sb = ss.map St := by induction ss with | nil => rfl | cons x l ih => simp [Sb, ih]
theorem Has.growL {β : Base} {A : HP} : ∀ (os : List Obj) {w : World}, Has β A w → Has β A (grow w ⟨os⟩)
  | [], w, hs => by rw [show grow w ⟨[]⟩ = w from by unfold grow; simp]; exact hs
  | o :: os, w, hs => by
    have h := Has.growL os (w := w.alloc o) (Has.alloc hs o).right
    rw [show grow w ⟨o :: os⟩ = grow (w.alloc o) ⟨os⟩ from by unfold grow World.alloc; simp [← Array.toList_inj]]
    exact h
theorem putRow_heap {w : World} {b : Nat} {cs junk : List Value} {T : TypeId} {zs : List (List UInt8)} (hb : w.heap[b]? = some (blk (cs ++ junk) T)) (hl : zs.length = cs.length) :
    (putRow encStr w b 0 zs.toArray).heap = w.heap.setIfInBounds b (blk (zs.map encStr ++ junk) T) := by
  have hlt := (Array.getElem?_eq_some_iff.1 hb).1
  unfold putRow mapBlock
  apply Array.ext_getElem?
  intro j
  simp only [Array.getElem?_modify]
  by_cases hj : b = j
  · subst hj
    rw [if_pos rfl, hb, Array.getElem?_setIfInBounds_self_of_lt hlt]
    simp only [Option.map_some, onCells, blk, Option.some.injEq, Obj.cells.injEq, and_true]
    apply Array.ext_getElem?
    intro k
    unfold putCells
    rw [Array.getElem?_mapIdx]
    simp only [List.getElem?_toArray, Nat.zero_le, true_and, Nat.zero_add, List.size_toArray, Nat.sub_zero]
    by_cases hk : k < zs.length
    · have hk2 : k < cs.length := by omega
      have e1 : (cs ++ junk)[k]? = some cs[k] := by rw [List.getElem?_append_left hk2, List.getElem?_eq_getElem hk2]
      have e2 : (zs.map encStr ++ junk)[k]? = some (encStr zs[k]) := by rw [List.getElem?_append_left (by rw [List.length_map]; exact hk), List.getElem?_map, List.getElem?_eq_getElem hk]; rfl
      rw [e1, e2, Option.map_some, if_pos hk]; simp [hk]
    · have e1 : (cs ++ junk)[k]? = junk[k - cs.length]? := List.getElem?_append_right (by omega)
      have e2 : (zs.map encStr ++ junk)[k]? = junk[k - cs.length]? := by rw [List.getElem?_append_right (by rw [List.length_map]; omega), List.length_map, hl]
      rw [e1, e2]
      cases junk[k - cs.length]? with
      | none => rfl
      | some v => rw [Option.map_some, if_neg hk]
  · rw [if_neg hj, Array.getElem?_setIfInBounds_ne hj]
section
variable {P : Program} {ρ : Ren}
theorem ac_sortS (Y : Lays.n190 P ρ) (T : TypeId) (oa : Option Addr) (cap : Nat) (ss : List ByteArray) (hlen : ss.length ≤ 1000000) :
    AC P (ρ.f 190) ⟨[.slice oa ss.length cap]⟩ (stars [own T 1 oa ss.length cap (ss.flatMap Sb)]) (Ret (.tuple ⟨[]⟩) [own T 1 oa ss.length cap ((srtS ss).flatMap Sb)]) := fun w h hA hsub => by
  have hs : Has ⟨w, h⟩ (stars [own T 1 oa ss.length cap (ss.flatMap Sb)]) w := ⟨⟨h, hA, hsub, fun b hb => .inl hb⟩, ⟨fun _ _ _ => rfl, Nat.le_refl _, rfl, rfl, rfl⟩⟩
  by_cases hne : ss = []
  · subst hne
    refine Calls.mono (calls_of_every_depth fun D => AnyS.slices_Sort_string_none_alone Y D oa cap w) fun e w' he => ?_
    obtain ⟨rfl, rfl⟩ := he
    exact ⟨_, rfl, hs.mono fun hp hh => ⟨rfl, by rw [show srtS [] = [] from by simp [srtS]]; exact hh⟩⟩
  · have hcl : (ss.flatMap Sb).length = ss.length := by rw [sb_map, List.length_map]
    have hsl : 0 < ss.length := List.length_pos_iff.2 hne
    obtain ⟨⟨hp, ⟨p1, p2, hd, rfl, ⟨_, hnc, hcase⟩, hrest⟩, hsub1, hown1⟩, hr1⟩ := hs
    rcases hcase with ⟨hc0, he⟩ | ⟨b, junk, rfl, hjl, hpt⟩
    · omega
    · have hsb : Has ⟨w, h⟩ (star (pt b (blk (ss.flatMap Sb ++ junk) T)) (stars [])) w := ⟨⟨_, ⟨p1, p2, hd, rfl, hpt, hrest⟩, hsub1, hown1⟩, hr1⟩
      have hb := hsb.pt_heap
      have hH : Holds encStr w b 0 (ss.map fun s => s.data.toList).toArray := fun j hj => by
        have hj2 : j < ss.length := by simpa using hj
        refine ⟨?_, frozen_blk hb⟩
        rw [Nat.zero_add, cell_blk hb (u := St ss[j]) (by rw [List.getElem?_append_left (by omega), sb_map, List.getElem?_map, List.getElem?_eq_getElem hj2]; rfl)]
        simp [hj2]
      have hc := calls_of_every_depth fun D => AnyS.slices_Sort_string_alone Y D b 0 cap (ss.map fun s => s.data.toList) w hH (Array.getElem?_eq_some_iff.1 hb).1 (by rw [List.length_map]; omega)
      rw [List.length_map] at hc
      refine hc.mono fun e w' he => ?_
      obtain ⟨rfl, n, os, rfl⟩ := he
      have hah : Has ⟨w, h⟩ (star (pt b (blk (ss.flatMap Sb ++ junk) T)) (stars [])) (Sort.ahead w n) := hsb.same rfl rfl rfl rfl
      have hput := Has.setObj (o' := blk ((srtS ss).flatMap Sb ++ junk) T) (w' := putRow encStr (Sort.ahead w n) b 0 ((ss.map fun s => s.data.toList).mergeSort fun x y => decide (x ≤ y)).toArray) hah (by
        rw [putRow_heap (w := Sort.ahead w n) hb (by rw [List.length_mergeSort, List.length_map, hcl]), sb_map, srtS, List.map_map]; rfl) rfl rfl rfl
      have hg := Has.growL os.toList hput
      refine ⟨_, rfl, hg.mono fun hp2 hh => ⟨rfl, ?_⟩⟩
      obtain ⟨q1, q2, qd, rfl, hq1, hq2⟩ := hh
      refine ⟨q1, q2, qd, rfl, ⟨?_, hnc, .inr ⟨b, junk, rfl, ?_, hq1⟩⟩, hq2⟩
      · rw [sb_map, List.length_map, srtS_len, Nat.mul_one]
      · rw [sb_map, List.length_map, srtS_len]; rw [hcl] at hjl; exact hjl
end
end Go.SL

namespace Go.SL
open Go
def cut1 (c : UInt8) : List UInt8 → List UInt8 × List UInt8 × Bool
  | [] => ([], [], false)
  | x :: r => if x = c then ([], r, true) else (x :: (cut1 c r).1, (cut1 c r).2.1, (cut1 c r).2.2)
abbrev ba (l : List UInt8) : ByteArray := ⟨⟨l⟩⟩
def parseF : Nat → List UInt8 → List Tg → Option (List Tg)
  | 0, _, _ => none
  | n + 1, s, acc =>
    if (cut1 61 (cut1 44 s).1).2.2 = false ∨ 6 < acc.length then none
    else if (cut1 44 s).2.2 = true then parseF n (cut1 44 s).2.1 (acc ++ [⟨ba (cut1 61 (cut1 44 s).1).1, ba (cut1 61 (cut1 44 s).1).2.1⟩]) else some (acc ++ [⟨ba (cut1 61 (cut1 44 s).1).1, ba (cut1 61 (cut1 44 s).1).2.1⟩])
def parseT (s : ByteArray) : Option (List Tg) :=
  if s = bs0 then some [] else match parseF (s.size + 1) s.data.toList [] with | none => none | some l => if rightB l = true then some l else none
theorem cut1_len (c : UInt8) : ∀ s : List UInt8, (cut1 c s).2.1.length ≤ s.length ∧ ((cut1 c s).2.2 = true → (cut1 c s).2.1.length < s.length)
  | [] => by simp [cut1]
  | x :: r => by
    have ih := cut1_len c r
    simp only [cut1]; split
    · simp
    · simp only [List.length_cons]; exact ⟨by omega, fun h => by have := ih.2 h; omega⟩
theorem parseF_fuel : ∀ {n m : Nat} {s : List UInt8} {acc : List Tg}, s.length < n → s.length < m → parseF n s acc = parseF m s acc
  | 0, _, _, _, h, _ => by omega
  | _ + 1, 0, _, _, _, h => by omega
  | n + 1, m + 1, s, acc, h1, h2 => by
    simp only [parseF]
    split
    · rfl
    · split
      · rename_i h
        have := (cut1_len 44 s).2 h
        exact parseF_fuel (by omega) (by omega)
      · rfl
theorem cut1_hit {c : UInt8} : ∀ {a b : List UInt8}, (∀ x ∈ a, x ≠ c) → cut1 c (a ++ c :: b) = (a, b, true)
  | [], b, _ => by simp [cut1]
  | x :: a, b, h => by
    have ih := cut1_hit (c := c) (a := a) (b := b) fun y hy => h y (by simp [hy])
    simp only [List.cons_append, cut1, ih]; rw [if_neg (h x (by simp))]
theorem cut1_miss {c : UInt8} : ∀ {a : List UInt8}, (∀ x ∈ a, x ≠ c) → cut1 c a = (a, [], false)
  | [], _ => by simp [cut1]
  | x :: a, h => by
    have ih := cut1_miss (c := c) (a := a) fun y hy => h y (by simp [hy])
    simp only [cut1, ih]; rw [if_neg (h x (by simp))]
def tb (t : Tg) : List UInt8 := t.name.data.toList ++ 61 :: t.value.data.toList
theorem code_clean {s : ByteArray} (h : codeB s = true) : ∀ x ∈ s.data.toList, x ≠ 44 ∧ x ≠ 61 := fun x hx => by
  with_unfolding_all
    unfold codeB everyB at h
    simp only [Bool.and_eq_true, List.all_eq_true] at h
    have := h.2 x hx
    unfold byteOk letterB digitB at this
    simp only [Bool.or_eq_true, decide_eq_true_eq] at this
    constructor
    · rintro rfl; simp at this
    · rintro rfl; simp at this
theorem tb_clean {t : Tg} (h : tgOk t = true) : (∀ x ∈ tb t, x ≠ 44) ∧ cut1 61 (tb t) = (t.name.data.toList, t.value.data.toList, true) := by
  unfold tgOk at h; rw [Bool.and_eq_true] at h
  have h1 := code_clean h.1; have h2 := code_clean h.2
  refine ⟨fun x hx => ?_, cut1_hit fun x hx => (h1 x hx).2⟩
  unfold tb at hx
  rcases List.mem_append.1 hx with hx | hx
  · exact (h1 x hx).1
  · rcases List.mem_cons.1 hx with rfl | hx
    · decide
    · exact (h2 x hx).1
theorem ba_data (s : ByteArray) : ba s.data.toList = s := by obtain ⟨⟨l⟩⟩ := s; rfl
theorem parse_body : ∀ {r : List Tg} {t : Tg} {n : Nat} {acc : List Tg}, (∀ x ∈ t :: r, tgOk x = true) → acc.length + r.length ≤ 6 → r.length < n → parseF n (tb t ++ r.flatMap fun u => 44 :: tb u) acc = some (acc ++ t :: r)
  | _, _, 0, _, _, _, h => by omega
  | [], t, n + 1, acc, h1, h2, h3 => by
    have ht := tb_clean (h1 t (by simp))
    have hm := cut1_miss (c := 44) ht.1
    simp only [List.flatMap_nil, List.append_nil, parseF, hm, ht.2]
    rw [if_neg (by simp at h2 ⊢; omega)]
    simp only [ba_data]; rfl
  | u :: r, t, n + 1, acc, h1, h2, h3 => by
    have ht := tb_clean (h1 t (by simp))
    have hm := cut1_hit (c := 44) (a := tb t) (b := tb u ++ r.flatMap fun u => 44 :: tb u) ht.1
    have ih := parse_body (r := r) (t := u) (n := n) (acc := acc ++ [t]) (fun x hx => h1 x (List.mem_cons_of_mem _ hx)) (by simp at h2 ⊢; omega) (by simp at h3; omega)
    simp only [List.flatMap_cons, List.cons_append, parseF, hm, ht.2]
    rw [if_neg (by simp at h2 ⊢; omega), if_pos trivial]
    simp only [ba_data, List.append_assoc] at ih ⊢
    exact ih
theorem app_data (a b : ByteArray) : (a ++ b).data.toList = a.data.toList ++ b.data.toList := by
  rw [ByteArray.data_append, Array.toList_append]
theorem textI_data : ∀ {r : List Tg} {i : Nat} {s : ByteArray}, 0 < i → (textI i s r).data.toList = s.data.toList ++ r.flatMap fun u => 44 :: tb u
  | [], _, _, _ => by simp [textI]
  | t :: r, i, s, h => by
    simp only [textI]
    rw [textI_data (by omega), if_neg (by omega)]
    simp only [app_data, List.flatMap_cons, tb, List.append_assoc, List.cons_append, List.nil_append]
theorem textL_data (t : Tg) (r : List Tg) : (textL (t :: r)).data.toList = tb t ++ r.flatMap fun u => 44 :: tb u := by
  unfold textL
  simp only [textI]
  rw [textI_data (by omega), if_pos trivial]
  simp only [app_data, tb, List.append_assoc, List.cons_append, List.nil_append]
theorem parse_text {ts : List Tg} (h : rightB ts = true) : parseT (textL ts) = some ts := by
  match ts, h with
  | [], _ => rfl
  | t :: r, h =>
    have hd := textL_data t r
    have hne : textL (t :: r) ≠ bs0 := fun e => by rw [e] at hd; have := congrArg List.length hd; simp [tb] at this
    have h' := h
    unfold rightB at h'
    simp only [Bool.and_eq_true, decide_eq_true_eq] at h'
    have hok := okT_at.1 h'.2
    have hall : ∀ x ∈ t :: r, tgOk x = true := fun x hx => by
      obtain ⟨i, hi, rfl⟩ := List.getElem_of_mem hx
      exact (hok i _ (List.getElem?_eq_getElem hi)).1
    have hlen : r.length ≤ (r.flatMap fun u => 44 :: tb u).length := by
      clear hd hne h h' hok hall
      induction r with
      | nil => simp
      | cons x r ih => simp only [List.flatMap_cons, List.length_append, List.length_cons] at ih ⊢; omega
    unfold parseT
    rw [if_neg hne, hd, parse_body hall (by simp at h' ⊢; omega) (by
      have : (textL (t :: r)).size = (textL (t :: r)).data.toList.length := rfl
      rw [this, hd, List.length_append]; omega)]
    simp only [List.nil_append, h, if_true]
end Go.SL

namespace Go.SL
open Go
theorem uniqP {α : Type} {lt : α → α → Prop} (irr : ∀ a, ¬ lt a a) (tr : ∀ {a b c}, lt a b → lt b c → lt a c) : ∀ {a b : List α}, a.Pairwise lt → b.Pairwise lt → (∀ y, y ∈ a ↔ y ∈ b) → a = b
  | [], [], _, _, _ => rfl
  | [], y :: b, _, _, h => absurd ((h y).2 (by simp)) (by simp)
  | x :: a, [], _, _, h => absurd ((h x).1 (by simp)) (by simp)
  | x :: a, y :: b, ha, hb, h => by
    rw [List.pairwise_cons] at ha hb
    have exy : x = y := by
      rcases List.mem_cons.1 ((h x).1 (by simp)) with e | e
      · exact e
      · rcases List.mem_cons.1 ((h y).2 (by simp)) with e2 | e2
        · exact e2.symm
        · exact absurd (tr (ha.1 y e2) (hb.1 x e)) (irr _)
    subst exy
    congr 1
    refine uniqP irr tr ha.2 hb.2 fun z => ?_
    have hz := h z
    constructor
    · intro m
      rcases List.mem_cons.1 (hz.1 (List.mem_cons_of_mem _ m)) with e | e
      · subst e; exact absurd (ha.1 _ m) (irr _)
      · exact e
    · intro m
      rcases List.mem_cons.1 (hz.2 (List.mem_cons_of_mem _ m)) with e | e
      · subst e; exact absurd (hb.1 _ m) (irr _)
      · exact e
def ltS (a b : ByteArray) : Prop := blt a b = true
def insS (k : ByteArray) : List ByteArray → List ByteArray
  | [] => [k]
  | x :: xs => if blt x k = true then x :: insS k xs else if x = k then x :: xs else k :: x :: xs
def sortS (l : List ByteArray) : List ByteArray := l.foldl (fun ks x => insS x ks) []
theorem insS_mem {k y : ByteArray} : ∀ {ks : List ByteArray}, y ∈ insS k ks ↔ y = k ∨ y ∈ ks
  | [] => by simp [insS]
  | x :: xs => by
    simp only [insS]
    split
    · simp only [List.mem_cons, insS_mem (ks := xs)]
      constructor
      · rintro (h | h | h) <;> simp [h]
      · rintro (h | h | h) <;> simp [h]
    · split
      · rename_i h; subst h; simp
      · simp
theorem insS_pair {k : ByteArray} : ∀ {ks : List ByteArray}, ks.Pairwise ltS → (insS k ks).Pairwise ltS
  | [], _ => by simp [insS]
  | x :: xs, h => by
    simp only [insS]
    rw [List.pairwise_cons] at h
    split
    · rename_i hk
      refine List.Pairwise.cons (fun y hy => ?_) (insS_pair h.2)
      rcases insS_mem.1 hy with rfl | hy
      · exact hk
      · exact h.1 y hy
    · split
      · exact List.Pairwise.cons h.1 h.2
      · rename_i h1 h2
        have hk : ltS k x := by
          rcases blt_total h2 with h3 | h3
          · exact absurd h3 h1
          · exact h3
        refine List.Pairwise.cons (fun y hy => ?_) (List.Pairwise.cons h.1 h.2)
        rcases List.mem_cons.1 hy with rfl | hy
        · exact hk
        · exact blt_trans hk (h.1 y hy)
theorem sortS_fold_mem {y : ByteArray} : ∀ {l ks : List ByteArray}, y ∈ l.foldl (fun ks x => insS x ks) ks ↔ y ∈ ks ∨ y ∈ l
  | [], ks => by simp
  | x :: l, ks => by
    rw [List.foldl_cons, sortS_fold_mem, insS_mem, List.mem_cons]
    constructor
    · rintro ((h | h) | h) <;> simp [h]
    · rintro (h | h | h) <;> simp [h]
theorem sortS_mem {y : ByteArray} {l : List ByteArray} : y ∈ sortS l ↔ y ∈ l := by unfold sortS; rw [sortS_fold_mem]; simp
theorem sortS_fold_pair : ∀ {l ks : List ByteArray}, ks.Pairwise ltS → (l.foldl (fun ks x => insS x ks) ks).Pairwise ltS
  | [], _, h => h
  | x :: l, ks, h => sortS_fold_pair (l := l) (insS_pair h)
theorem sortS_pair (l : List ByteArray) : (sortS l).Pairwise ltS := sortS_fold_pair List.Pairwise.nil
theorem sortS_uniq {a l : List ByteArray} (ha : a.Pairwise ltS) (h : ∀ y, y ∈ a ↔ y ∈ l) : a = sortS l :=
  uniqP (lt := ltS) (fun a h => by unfold ltS at h; rw [blt_irrefl] at h; cases h) (fun h1 h2 => blt_trans h1 h2) ha (sortS_pair l) fun y => by rw [h, sortS_mem]
def Ln.e (l : Ln) : Ln := { l with ta := none, tc := 0 }
def En.e (x : En) : En := { x with la := none, lc := 0, lines := x.lines.map Ln.e }
theorem lineE_e (l : Ln) : lineE l.e = lineE l := rfl
theorem ofCur_e (c : ByteArray) (ls : List Ln) : ofCur c (ls.map Ln.e) = (ofCur c ls).map Ln.e := by
  unfold ofCur
  rw [List.filter_map]; rfl
theorem amts_e (ls : List Ln) : amts (ls.map Ln.e) = amts ls := by unfold amts; rw [List.map_map]; rfl
theorem bass_e (ls : List Ln) : bass (ls.map Ln.e) = bass ls := by unfold bass; rw [List.map_map]; rfl
theorem balC_e (ls : List Ln) (c : ByteArray) : balC (ls.map Ln.e) c = balC ls c := by unfold balC; rw [ofCur_e, amts_e, bass_e]
theorem balB_e (ls : List Ln) : balB (ls.map Ln.e) = balB ls := by
  unfold balB
  rw [List.all_map]
  congr 1; funext l; exact balC_e ls l.cur
theorem linesE_e : ∀ (ls : List Ln) (i : Nat), linesE i (ls.map Ln.e) = linesE i ls
  | [], _ => rfl
  | l :: r, i => by simp only [List.map_cons, linesE, lineE_e, linesE_e r]
theorem chkN_e (x : En) : chkN x.e = chkN x := by
  have h : headE x.e = headE x := by unfold headE En.e; simp only [List.length_map]
  unfold chkN
  rw [h]
  simp only [En.e, linesE_e, balB_e]
def negL (x : Cl) : Ln := ⟨x.k.acc, x.k.cur, -x.amt, -x.base, x.k.partner, bs0, none, 0, (parseT x.k.tags).getD []⟩
def byC (c : ByteArray) (s : List Cl) : List Cl := s.filter fun x => decide (x.k.cur = c)
def against (s : List Cl) (to c : ByteArray) : Option Ln := if sumA (byC c s) = 0 ∧ sumB (byC c s) = 0 then none else some ⟨to, c, sumA (byC c s), sumB (byC c s), bs0, bs0, none, 0, []⟩
def curS (s : List Cl) : List ByteArray := sortS (s.map fun x => x.k.cur)
def transL (s : List Cl) (to : ByteArray) : List Ln := s.map negL ++ (curS s).filterMap (against s to)
def resM (xs : List Ac) (first : Int) (l : List En) (ent : ByteArray) (year book : Int) : List Cl × Int :=
  if ¬ (1 ≤ first ∧ first ≤ 12) then ([], 2) else if yearB first year = false then ([], 16)
  else if (replayL l ⟨ent, 0, lastF first year, book⟩).2 = 0 then
    match pickR xs (replayL l ⟨ent, 0, lastF first year, book⟩).1 with | none => ([], 12) | some s => (s, 0)
  else ([], (replayL l ⟨ent, 0, lastF first year, book⟩).2)
def en0 : En := ⟨0, bs0, 0, 0, 0, bs0, bs0, 0, none, 0, []⟩
def entM (xs : List Ac) (first : Int) (l : List En) (ent : ByteArray) (year book : Int) (to who : ByteArray) : En × Int :=
  if (resM xs first l ent year book).2 = 0 then
    if (match getL xs to with | none => false | some a => a.post && decide (a.kind = 3)) = false then (en0, 12)
    else if (resM xs first l ent year book).1 = [] then (en0, 18)
    else
      let x : En := ⟨0, ent, book, lastF first year, 4, bs0, who, 0, none, 0, transL (resM xs first l ent year book).1 to⟩
      if (chkN x).2 = 0 then (x, 0) else (en0, (chkN x).2)
  else (en0, (resM xs first l ent year book).2)
end Go.SL

namespace Go.SL
open Go
theorem insK_len {k : Ky} : ∀ {ks : List Ky}, (insK k ks).length ≤ ks.length + 1
  | [] => by simp [insK]
  | x :: xs => by
    have := insK_len (k := k) (ks := xs)
    simp only [insK]
    split
    · simp
    · split <;> simp <;> omega
theorem keys_fold_len : ∀ {l : List Cl} {ks : List Ky}, (l.foldl (fun ks x => insK x.k ks) ks).length ≤ ks.length + l.length
  | [], ks => by simp
  | x :: l, ks => by
    have h1 := keys_fold_len (l := l) (ks := insK x.k ks)
    have h2 := insK_len (k := x.k) (ks := ks)
    rw [List.foldl_cons, List.length_cons]; omega
theorem ofK_len {l : List Cl} : ∀ {ks : List Ky} {s : List Cl}, ofK l ks = some s → s.length ≤ ks.length
  | [], s, h => by simp [ofK] at h; subst h; simp
  | k :: ks, s, h => by
    simp only [ofK] at h
    split at h
    · cases h2 : ofK l ks with
      | none => rw [h2] at h; cases h
      | some t =>
        rw [h2, Option.map_some, Option.some.injEq] at h
        have ih := ofK_len h2
        subst h
        split <;> simp <;> omega
    · cases h
theorem sheet_len {l s : List Cl} (h : sheetL l = some s) : s.length ≤ l.length := by
  have h1 := ofK_len h
  have h2 := keys_fold_len (l := l) (ks := [])
  unfold keysL at h1
  rw [List.length_nil, Nat.zero_add] at h2
  exact Nat.le_trans h1 h2
theorem errL_zero : ∀ {l : List En}, errL l = 0 → ∀ e ∈ l, (chkN e).2 = 0
  | [], _, _, h => by cases h
  | e :: r, h, x, hx => by
    simp only [errL] at h
    split at h
    · rename_i h0
      rcases List.mem_cons.1 hx with rfl | hx
      · exact h0
      · exact errL_zero h x hx
    · rename_i h0; exact absurd h h0
theorem replay_len {l : List En} {q : Qy} (hl : l.length ≤ 1000) : (replayL l q).1.length ≤ 100000 := by
  unfold replayL
  split
  · rename_i h
    have hc := cells_len (q := q) (l := l) fun e he => chk_len (errL_zero h e he)
    cases hs : sheetL (cellsL q l) with
    | none => simp
    | some s => have := sheet_len hs; simp only; omega
  · simp
theorem chart_need {m xs : List Ac} (h : m.map Ac.st = xs.map Ac.st) (hc : chartB xs = true) : ∀ a ∈ m, a.need.length ≤ 6 := fun a ha => by
  obtain ⟨j, hj, rfl⟩ := List.getElem_of_mem ha
  have hl := st_len h
  have hx : xs[j]? = some xs[j] := List.getElem?_eq_getElem (by omega)
  have h1 := alone_len (alone_zero.2 ((chart_iff.1 hc).2.1 j _ hx))
  have e : (m.map Ac.st)[j]? = (xs.map Ac.st)[j]? := by rw [h]
  rw [List.getElem?_map, List.getElem?_map, hx, List.getElem?_eq_getElem hj] at e
  simp only [Option.map_some, Option.some.injEq] at e
  have e2 := congrArg Ac.need e
  simp only [Ac.st] at e2
  rw [e2]; exact h1
theorem pick_st {m xs : List Ac} (h : m.map Ac.st = xs.map Ac.st) : ∀ (s : List Cl), pickR m s = pickR xs s
  | [] => rfl
  | x :: r => by
    have hg := get_st (code := x.k.acc) h
    simp only [pickR]
    rw [pick_st h r]
    cases h1 : getL m x.k.acc <;> cases h2 : getL xs x.k.acc <;> rw [h1, h2] at hg <;> simp at hg ⊢
    have e1 := congrArg Ac.post hg
    have e2 := congrArg Ac.kind hg
    simp only [Ac.st] at e1 e2
    rw [e1, e2]
theorem res_st {m xs : List Ac} (h : m.map Ac.st = xs.map Ac.st) (first : Int) (l : List En) (ent : ByteArray) (year book : Int) : resM m first l ent year book = resM xs first l ent year book := by
  unfold resM; rw [pick_st h]
def PickI (m : List Ac) (s : List Cl) (i : Nat) (acc : List Cl) : Prop := pickR m s = (pickR m (s.drop i)).map (fun t => acc ++ t) ∧ acc.length ≤ i
theorem PickI.start {m : List Ac} {s : List Cl} : PickI m s 0 [] := ⟨by simp, Nat.le_refl _⟩
theorem drop_at {α : Type} {s : List α} {i : Nat} {x : α} (h : s[i]? = some x) : s.drop i = x :: s.drop (i + 1) := by
  obtain ⟨hi, rfl⟩ := List.getElem?_eq_some_iff.1 h
  exact List.drop_eq_getElem_cons hi
theorem PickI.bad {m : List Ac} {s acc : List Cl} {i : Nat} {x : Cl} (h : PickI m s i acc) (hx : s[i]? = some x) (hg : getL m x.k.acc = none) : pickR m s = none := by
  rw [h.1, drop_at hx, pickR, hg]; rfl
theorem PickI.shut {m : List Ac} {s acc : List Cl} {i : Nat} {x : Cl} {a : Ac} (h : PickI m s i acc) (hx : s[i]? = some x) (hg : getL m x.k.acc = some a) (hp : a.post = false) : pickR m s = none := by
  rw [h.1, drop_at hx, pickR, hg]; simp [hp]
theorem PickI.step {m : List Ac} {s acc : List Cl} {i : Nat} {x : Cl} {a : Ac} (h : PickI m s i acc) (hx : s[i]? = some x) (hg : getL m x.k.acc = some a) (hp : a.post = true) :
    PickI m s (i + 1) (if a.kind = 4 ∨ a.kind = 5 then acc ++ [x] else acc) := by
  refine ⟨?_, ?_⟩
  · rw [h.1, drop_at hx, pickR, hg]
    simp only [hp, if_true, Option.map_map]
    congr 1; funext t
    by_cases hk : a.kind = 4 ∨ a.kind = 5 <;> simp [hk]
  · have := h.2
    split
    · rw [List.length_append, List.length_singleton]; omega
    · omega
theorem PickI.done {m : List Ac} {s acc : List Cl} {i : Nat} (h : PickI m s i acc) (hi : s.length ≤ i) : pickR m s = some acc := by
  rw [h.1, List.drop_eq_nil_of_le hi, pickR]; simp
theorem span13 {first year : Int} (h : (spanM first year 13).2.2 = 0) : (1 ≤ first ∧ first ≤ 12) ∧ yearB first year = true ∧ (spanM first year 13).2.1 = lastF first year := by
  unfold spanM at h ⊢
  by_cases hf : 1 ≤ first ∧ first ≤ 12
  · cases hy : yearB first year with
    | false => rw [hy] at h; simp [hf] at h
    | true => simp [hf, inB]
  · simp [hf] at h
theorem res_span {first year : Int} (h : ¬ (spanM first year 13).2.2 = 0) (m : List Ac) (l : List En) (ent : ByteArray) (book : Int) : resM m first l ent year book = ([], (spanM first year 13).2.2) := by
  unfold resM; unfold spanM at h ⊢
  by_cases hf : 1 ≤ first ∧ first ≤ 12
  · cases hy : yearB first year with
    | false => simp [hf]
    | true => rw [hy] at h; simp [hf, inB] at h
  · simp [hf]
theorem res_play {first year : Int} (hf : 1 ≤ first ∧ first ≤ 12) (hy : yearB first year = true) (m : List Ac) (l : List En) (ent : ByteArray) (book : Int) (h : ¬ (replayL l ⟨ent, 0, lastF first year, book⟩).2 = 0) : resM m first l ent year book = ([], (replayL l ⟨ent, 0, lastF first year, book⟩).2) := by
  unfold resM; rw [if_neg (fun h => h hf), hy, if_neg (by decide), if_neg h]
theorem res_pick {first year : Int} (hf : 1 ≤ first ∧ first ≤ 12) (hy : yearB first year = true) (m : List Ac) (l : List En) (ent : ByteArray) (book : Int) (h : (replayL l ⟨ent, 0, lastF first year, book⟩).2 = 0) : resM m first l ent year book = match pickR m (replayL l ⟨ent, 0, lastF first year, book⟩).1 with | none => ([], 12) | some s => (s, 0) := by
  unfold resM; rw [if_neg (fun h => h hf), hy, if_neg (by decide), if_pos h]; first | done | rfl
theorem res_pickN {first year : Int} (hf : 1 ≤ first ∧ first ≤ 12) (hy : yearB first year = true) {m : List Ac} {l : List En} {ent : ByteArray} {book : Int} (h : (replayL l ⟨ent, 0, lastF first year, book⟩).2 = 0) (hp : pickR m (replayL l ⟨ent, 0, lastF first year, book⟩).1 = none) : resM m first l ent year book = ([], 12) := by
  rw [res_pick hf hy m l ent book h, hp]
theorem res_pickS {first year : Int} (hf : 1 ≤ first ∧ first ≤ 12) (hy : yearB first year = true) {m : List Ac} {l : List En} {ent : ByteArray} {book : Int} {s : List Cl} (h : (replayL l ⟨ent, 0, lastF first year, book⟩).2 = 0) (hp : pickR m (replayL l ⟨ent, 0, lastF first year, book⟩).1 = some s) : resM m first l ent year book = (s, 0) := by
  rw [res_pick hf hy m l ent book h, hp]
def lastR (m : List Ac) (first : Int) (l : List En) (ent : ByteArray) (year book : Int) : Int := if (resM m first l ent year book).2 = 0 then lastF first year else 0
theorem lk_some {m : List Ac} {c : ByteArray} {a : Ac} (h : getL m c = some a) : lkA m c = a := by unfold lkA; rw [h]; rfl
theorem lk_none {m : List Ac} {c : ByteArray} (h : getL m c = none) : lkA m c = Ac0 := by unfold lkA; rw [h]; rfl
theorem lk_mem {m : List Ac} {c : ByteArray} {a : Ac} (h : getL m c = some a) : a ∈ m := List.mem_of_find?_eq_some h
theorem lk_rds {T : TypeId} {m : List Ac} {c : ByteArray} : RdS (big (ndH T) m) (lkA m c).na ((lkA m c).need.flatMap Sb) := by
  cases h : getL m c with
  | none => rw [lk_none h]; exact RdS.nil
  | some a => rw [lk_some h]; exact big_rds (f := ndH T) (lk_mem h) own.rds
theorem lk_need {m : List Ac} {c : ByteArray} (h : ∀ a ∈ m, a.need.length ≤ 6) : (lkA m c).need.length ≤ 6 := by
  cases hg : getL m c with
  | none => rw [lk_none hg]; exact Nat.zero_le _
  | some a => rw [lk_some hg]; exact h a (lk_mem hg)
end Go.SL

namespace Go.SL
open Go
def finP (o : Option (List Tg)) : Option (List Tg) := match o with | none => none | some l => if rightB l = true then some l else none
abbrev it1 (l : List UInt8) : List UInt8 := (cut1 44 l).1
abbrev nxT (l : List UInt8) (acc : List Tg) : List Tg := acc ++ [⟨ba (cut1 61 (it1 l)).1, ba (cut1 61 (it1 l)).2.1⟩]
structure PaI (s : ByteArray) (more : Bool) (l : List UInt8) (acc : List Tg) : Prop where
  eq : parseT s = finP (if more = true then parseF (l.length + 1) l acc else some acc)
  len : acc.length ≤ 7
  sz : l.length ≤ s.size
theorem cut1_fst (c : UInt8) : ∀ s : List UInt8, (cut1 c s).1.length ≤ s.length
  | [] => by simp [cut1]
  | x :: r => by
    have ih := cut1_fst c r
    simp only [cut1]; split <;> simp <;> omega
theorem PaI.start {s : ByteArray} : PaI s (decide (s ≠ bs0)) s.data.toList [] := by
  refine ⟨?_, by simp, Nat.le_refl _⟩
  unfold parseT
  by_cases h : s = bs0
  · subst h; simp [finP]; rfl
  · rw [if_neg h, if_pos (by simpa using h)]; rfl
theorem PaI.bad {s : ByteArray} {l : List UInt8} {acc : List Tg} (h : PaI s true l acc) (hb : (cut1 61 (it1 l)).2.2 = false ∨ 6 < acc.length) : parseT s = none := by
  rw [h.eq, if_pos rfl, parseF, if_pos hb]; rfl
theorem PaI.step {s : ByteArray} {l : List UInt8} {acc : List Tg} (h : PaI s true l acc) (hb : ¬ ((cut1 61 (it1 l)).2.2 = false ∨ 6 < acc.length)) : PaI s (cut1 44 l).2.2 (cut1 44 l).2.1 (nxT l acc) := by
  have hl := cut1_len 44 l
  refine ⟨?_, by simp only [List.length_append, List.length_singleton]; omega, Nat.le_trans hl.1 h.sz⟩
  rw [h.eq, if_pos rfl, parseF, if_neg hb]
  by_cases hm : (cut1 44 l).2.2 = true
  · rw [if_pos hm, if_pos hm, parseF_fuel (hl.2 hm) (Nat.lt_succ_self _)]
  · rw [if_neg hm, if_neg hm]
theorem PaI.right {s : ByteArray} {l : List UInt8} {acc : List Tg} (h : PaI s false l acc) (hr : rightB acc = true) : parseT s = some acc := by
  rw [h.eq, if_neg (by decide)]; simp [finP, hr]
theorem PaI.wrong {s : ByteArray} {l : List UInt8} {acc : List Tg} (h : PaI s false l acc) (hr : ¬ rightB acc = true) : parseT s = none := by
  rw [h.eq, if_neg (by decide)]; simp [finP, hr]
def paM (more : Bool) (l : List UInt8) : Nat := if more = true then l.length + 1 else 0
theorem paM_lt {l : List UInt8} : paM (cut1 44 l).2.2 (cut1 44 l).2.1 < paM true l := by
  have hl := cut1_len 44 l
  unfold paM
  by_cases hm : (cut1 44 l).2.2 = true
  · rw [if_pos hm, if_pos rfl]; have := hl.2 hm; omega
  · rw [if_neg hm, if_pos rfl]; omega
end Go.SL

namespace Go.SL
open Go Go.Proofs Go.Shelf
theorem index_one' (c : UInt8) : ∀ s : List UInt8, Lib.index s [c] = if (cut1 c s).2.2 = true then ((cut1 c s).1.length : Int) else -1
  | [] => by simp [Lib.index, cut1]
  | x :: r => by
    have ih := index_one' c r
    have hx : ([c].isPrefixOf (x :: r)) = (c == x) := by simp [List.isPrefixOf]
    rw [Lib.index, hx]
    by_cases h : x = c
    · subst h; simp [cut1]
    · have h2 : (c == x) = false := by simpa using fun e => h e.symm
      rw [h2, ih]
      simp only [cut1, if_neg h, Bool.false_eq_true, if_false]
      by_cases hc : (cut1 c r).2.2 = true
      · simp only [hc, if_true, List.length_cons]
        have : ¬ (((cut1 c r).1.length : Int) == -1) = true := by simp
        rw [if_neg this]; push_cast; rfl
      · simp [hc]
theorem cut1_split (c : UInt8) : ∀ s : List UInt8, (cut1 c s).2.2 = true → s = (cut1 c s).1 ++ c :: (cut1 c s).2.1
  | [], h => by simp [cut1] at h
  | x :: r, h => by
    have ih := cut1_split c r
    simp only [cut1] at h ⊢
    split
    · rename_i e; subst e; rfl
    · rename_i e; rw [if_neg e] at h; simp only [List.cons_append]; rw [← ih h]
theorem cut1_all (c : UInt8) : ∀ s : List UInt8, ¬ (cut1 c s).2.2 = true → cut1 c s = (s, [], false)
  | [], h => rfl
  | x :: r, h => by
    have ih := cut1_all c r
    simp only [cut1] at h ⊢
    split
    · rename_i e; rw [if_pos e] at h; exact absurd rfl h
    · rename_i e; rw [if_neg e] at h; rw [ih h]
theorem take_split {s a b : List UInt8} {c : UInt8} (h : s = a ++ c :: b) : s.take a.length = a ∧ s.drop (a.length + 1) = b := by
  subst h
  exact ⟨List.take_left, by rw [← List.drop_drop, List.drop_left]; rfl⟩
theorem lib_cut (c : UInt8) (s : List UInt8) : Lib.cut s [c] = cut1 c s := by
  unfold Lib.cut
  rw [index_one']
  by_cases h : (cut1 c s).2.2 = true
  · obtain ⟨h1, h2⟩ := take_split (cut1_split c s h)
    rw [if_pos h, if_pos (by omega)]
    simp only [Int.toNat_natCast, List.length_singleton, h1, h2]
    rw [← h]
  · rw [if_neg h, if_neg (by omega), cut1_all c s h]
section
variable {P : Program} {ρ : Ren}
theorem ac_cut (Y : Lays.n145 P ρ) (s : ByteArray) (c : UInt8) (m : Int) (R : HP) (hR : Rd R ⟨ρ.g 1, 0, none⟩ [I m]) (hs : s.size < 4294967281) :
    AC P (ρ.f 145) ⟨[St s, St ⟨⟨[c]⟩⟩]⟩ (stars [R]) (Ret (.tuple ⟨[St (ba (cut1 c s.data.toList).1), St (ba (cut1 c s.data.toList).2.1), Bo (cut1 c s.data.toList).2.2]⟩) [R]) := fun w h hA hsub => by
  have h0 : Has ⟨w, h⟩ (stars [R]) w := ⟨⟨h, hA, hsub, fun b hb => .inl hb⟩, ⟨fun _ _ _ => rfl, Nat.le_refl _, rfl, rfl, rfl⟩⟩
  have hm : w.cell? ⟨ρ.g 1, 0, none⟩ = some (I m) := Sat.rd (L := [R]) h0 .here hR 0 (I m) rfl
  refine (Any.strings_Cut Y s ⟨⟨[c]⟩⟩ m w hs hm).mono fun e w' he => ?_
  obtain ⟨rfl, n, rfl⟩ := he
  refine ⟨_, rfl, (h0.same (w' := w.drewN n) rfl rfl rfl rfl).mono fun hp hh => ⟨?_, hh⟩⟩
  have e1 := lib_cut c s.data.toList
  simp only [e1]
end
end Go.SL

namespace Go.SL
open Go Go.Proofs Go.Shelf Go.Maps Go.WideElems Go.RowKit
theorem insert_perm {H : Type} (x : Lit × DataW H) : ∀ l : List (Lit × DataW H), (DataW.insert x l).Perm (x :: l)
  | [] => List.Perm.refl _
  | y :: r => by
    unfold DataW.insert
    split
    · exact List.Perm.refl _
    · exact ((insert_perm x r).cons y).trans (List.Perm.swap x y r)
theorem fold_perm {H : Type} : ∀ l : List (Lit × DataW H), (l.foldr DataW.insert []).Perm l
  | [] => List.Perm.refl _
  | x :: l => (insert_perm x _).trans ((fold_perm l).cons x)
abbrev R0 : Value → Option (DataW Unit × List MemPlace) := fun _ => some (.nil, [])
section
variable {P : Program} {k : TypeId} {α : Type} {kf : α → ByteArray} {gq : α → Value}
theorem key_str (hU : P.underlying k = some .string) {s : ByteArray} (hs : s.size ≤ maxLen) : keyOf P k (St s) = some (.string s.data.toList) := by
  unfold keyOf mapKey; simp [hU, hs]
theorem ents_rg (hU : P.underlying k = some .string) : ∀ (xs : List α) (n : Nat), (∀ x ∈ xs, (kf x).size ≤ maxLen) → (entsF (fun x => St (kf x)) gq n xs).map (Go.WideElems.rg P k R0) = xs.map fun x => ((Lit.string (kf x).data.toList, DataW.nil) : Lit × DataW Unit)
  | [], _, _ => rfl
  | x :: xs, n, h => by
    rw [entsF, List.map_cons, List.map_cons, ents_rg hU xs (n + 1) fun y hy => h y (by simp [hy])]
    rw [rg_of (rd_mk (key_str hU (h x (by simp))) rfl)]
theorem own_ents (hU : P.underlying k = some .string) {xs : List α} {w : World} {b : Nat} (hs : ∀ x ∈ xs, (kf x).size ≤ maxLen) (hnd : (xs.map kf).Nodup) (hl : xs.length ≤ maxLen) (hb : w.heap[b]? = some (.map (ents (fun x => St (kf x)) gq xs) xs.length)) :
    ∃ D0 : DataW Unit, w.ownsMap P k R0 b xs.length D0 ∧ (strKeys D0).Perm (xs.map fun x => (kf x).data.toList) ∧ Maps.size D0 = xs.length := by
  refine ⟨.map (((ents (fun x => St (kf x)) gq xs).toList.map (Go.WideElems.rg P k R0)).foldr DataW.insert []), ⟨_, _, hb, ⟨?_, ⟨?_, ?_, ?_⟩, ?_⟩, ?_, rfl⟩, ?_, ?_⟩
  · simp [ents, entsF_len, hl]
  · intro x hx
    obtain ⟨i, y, hy, rfl⟩ := entsF_mem hx
    have := (List.getElem?_eq_some_iff.1 hy).1
    show 0 + i < _; omega
  · exact (entsF_nodup xs 0).1
  · have : (ents (fun x => St (kf x)) gq xs).toList.map (·.key) = (xs.map kf).map St := by
      have key : ∀ (xs : List α) (n : Nat), (entsF (fun x => St (kf x)) gq n xs).map (·.key) = (xs.map kf).map St := fun xs => by
        induction xs with
        | nil => intro n; rfl
        | cons x xs ih => intro n; rw [entsF, List.map_cons, ih]; rfl
      exact key xs 0
    rw [this]
    exact List.Pairwise.map (R := (· ≠ ·)) _ (fun a b hab e => hab (by cases e; rfl)) hnd
  · intro x hx
    obtain ⟨i, y, hy, rfl⟩ := entsF_mem hx
    exact ⟨_, rd_mk (key_str hU (hs y (List.mem_of_getElem? hy))) rfl⟩
  · simp [ents, entsF_len]
  · show (List.map (fun p : Lit × DataW Unit => strOf p.1) _).Perm _
    refine ((fold_perm _).map _).trans ?_
    rw [show (ents (fun x => St (kf x)) gq xs).toList = entsF (fun x => St (kf x)) gq 0 xs from rfl, ents_rg hU xs 0 hs, List.map_map]
    exact List.Perm.refl _
  · have h1 := (fold_perm ((ents (fun x => St (kf x)) gq xs).toList.map (Go.WideElems.rg P k R0))).length_eq
    rw [List.length_map] at h1
    show (List.length _ : Nat) = _
    rw [h1]; simp [ents, entsF_len]
end
theorem has_new {w w' : World} {h : Hp} {A : HP} {o : Obj} {gb : Nat} (hA : A h) (hsub : h.sub w) (hb : Below w.heap.size w w') (hg : w.heap.size ≤ gb) (ho : w'.heap[gb]? = some o) : Has ⟨w, h⟩ (star (pt gb o) A) w' := by
  have hdom : ∀ b, h b ≠ none → b < w.heap.size := fun b hn => Hp.sub_lt hsub hn
  have hgn : h gb = none := by
    cases hb2 : h gb with
    | none => rfl
    | some o2 => exact absurd (hdom gb (by simp [hb2])) (by omega)
  refine ⟨⟨Hp.add (fun c => if c = gb then some o else none) h, ⟨_, h, ?_, rfl, fun c => rfl, hA⟩, ?_, ?_⟩, ⟨?_, hb.size, hb.os, hb.tape, hb.output⟩⟩
  · intro b
    by_cases e : b = gb
    · right; rw [e]; exact hgn
    · left; simp [e]
  · intro b o2 hbo
    by_cases e : b = gb
    · subst e; simp [Hp.add] at hbo; subst hbo; exact ho
    · simp [Hp.add, e] at hbo
      have hlt := hdom b (by simp [hbo])
      rw [hb.block b hlt]; exact hsub b o2 hbo
  · intro b hn
    by_cases e : b = gb
    · right; show w.heap.size ≤ b; omega
    · left; simpa [Hp.add, e] using hn
  · intro b hlt _; exact hb.block b hlt
section
variable {P : Program} {f g : FuncId} {mt k : TypeId} {bm nb : Nat} {α : Type} {kf : α → ByteArray} {gq : α → Value} {xs : List α}
theorem ac_sortedKeys (hU : P.underlying k = some .string) (hk : ∀ x ∈ xs, (kf x).size ≤ maxLen) (hnd : (xs.map kf).Nodup) (hl : xs.length ≤ 1000000)
    (hc : ∀ (W : World) (D0 : DataW Unit), nb < W.heap.size → W.cell? ⟨nb, 0, none⟩ = some (.map (some bm)) → W.ownsMap P k R0 bm xs.length D0 → Maps.size D0 ≤ maxLen → Maps.size D0 * 16 ≤ 140737488355328 →
      Calls P f #[.func (.func g) #[] #[.pointer (some ⟨nb, 0, none⟩)]] W fun e w' => ∃ (v : Value) (ss : List (List UInt8)), e = .returned v ∧ ss.Perm (strKeys D0) ∧ w'.ownsRow W.heap.size k 1 v ss.length ((ss.mergeSort (fun x y => decide (x ≤ y))).map encStr) ∧ (v = .slice none 0 0 ↔ ss = []) ∧ Below W.heap.size W w') :
    AC P f ⟨[.func (.func g) ⟨[]⟩ ⟨[.pointer (some ⟨nb, 0, none⟩)]⟩]⟩ (stars [pt nb (blk [.map (some bm)] mt), amap bm (fun x => St (kf x)) gq xs])
      (Outs (fun _ : Option Addr × Nat => True) (fun y => .slice y.1 xs.length y.2) (fun y => [own k 1 y.1 xs.length y.2 ((srtS (xs.map kf)).flatMap Sb), pt nb (blk [.map (some bm)] mt), amap bm (fun x => St (kf x)) gq xs])) := fun w h hA hsub => by
  have hs : Has ⟨w, h⟩ (stars [pt nb (blk [.map (some bm)] mt), amap bm (fun x => St (kf x)) gq xs]) w := ⟨⟨h, hA, hsub, fun b hb => .inl hb⟩, ⟨fun _ _ _ => rfl, Nat.le_refl _, rfl, rfl, rfl⟩⟩
  have hnb := Has.pt_heap hs
  have hbm : w.heap[bm]? = some (.map (ents (fun x => St (kf x)) gq xs) xs.length) := Has.pt_heap (A := stars []) hs.right
  obtain ⟨D0, hown, hperm, hsz⟩ := own_ents hU hk hnd (by unfold maxLen; omega) hbm
  refine (hc w D0 (Array.getElem?_eq_some_iff.1 hnb).1 (cell_blk hnb rfl) hown (by rw [hsz]; unfold maxLen; omega) (by rw [hsz]; omega)).mono fun e w' he => ?_
  obtain ⟨v, ss, rfl, hp, hrow, hnil, hbel⟩ := he
  have hpx := hp.trans hperm
  have hln : ss.length = xs.length := by rw [hpx.length_eq, List.length_map]
  have hsrt : (ss.mergeSort (fun x y => decide (x ≤ y))).map encStr = (srtS (xs.map kf)).flatMap Sb := by
    rw [sb_map, srtS, List.map_map, List.map_map, mergeSort_of_perm hpx]; rfl
  rw [hsrt, hln] at hrow
  refine ⟨_, rfl, ?_⟩
  obtain ⟨hrl, hcase⟩ := hrow
  rcases hcase with ⟨rfl, h0⟩ | ⟨gb, cap, cur, rfl, hbase, hgb, r1, r2, r3, r4⟩
  · have hx0 : xs = [] := List.eq_nil_of_length_eq_zero h0
    subst hx0
    have hh : Has ⟨w, h⟩ (stars [pt nb (blk [.map (some bm)] mt), amap bm (fun x => St (kf x)) gq ([] : List α)]) w' := ⟨⟨h, hA, fun b o hb => by rw [hbel.block b (Hp.sub_lt hsub (by simp [hb]))]; exact hsub b o hb, fun b hb => .inl hb⟩, ⟨fun b hb _ => hbel.block b hb, hbel.size, hbel.os, hbel.tape, hbel.output⟩⟩
    refine hh.mono fun hp2 h2 => ⟨(none, 0), ⟨trivial, rfl⟩, ?_⟩
    rw [show srtS (List.map kf []) = [] from by simp [srtS]]
    exact (⟨fun _ => none, hp2, fun b => .inl rfl, by funext b; simp [Hp.add], ⟨rfl, Nat.le_refl _, .inl ⟨rfl, fun _ => rfl⟩⟩, h2⟩ : star (own k 1 none 0 0 []) (stars _) hp2)
  · have hh := has_new hA hsub hbel hbase hgb
    refine hh.mono fun hp2 h2 => ⟨(some ⟨gb, 0, none⟩, cap), ⟨trivial, rfl⟩, ?_⟩
    refine star_mono (fun hq hq2 => ?_) (fun _ => id) h2
    refine ⟨hrl, r1, .inr ⟨gb, cur.toList.drop xs.length, rfl, ?_, ?_⟩⟩
    · rw [hrl, List.length_drop]; simp only [Array.length_toList, r3]; omega
    · rw [Nat.mul_one] at r4
      rw [← r4, List.take_append_drop]; exact hq2
end
end Go.SL

namespace Go.SL
open Go
theorem bl_lt : ∀ {a b : List UInt8}, Op.bytesLess a b = true ↔ a < b
  | [], [] => by simp [Op.bytesLess]
  | [], y :: b => by simp [Op.bytesLess]
  | x :: a, [] => by simp [Op.bytesLess]
  | x :: a, y :: b => by
    have ih := bl_lt (a := a) (b := b)
    rw [List.cons_lt_cons_iff, ← ih]
    simp only [Op.bytesLess]
    by_cases h1 : x < y
    · simp [h1]
    · by_cases h2 : x = y
      · subst h2; simp [h1]
      · simp [h1, h2]
        try grind
theorem srtS_perm (l : List ByteArray) : (srtS l).Perm l := by
  unfold srtS
  have h := (List.mergeSort_perm (l.map fun s => s.data.toList) (fun x y => decide (x ≤ y))).map (fun l : List UInt8 => (⟨l.toArray⟩ : ByteArray))
  refine h.trans ?_
  rw [List.map_map]
  have : (fun l : List UInt8 => (⟨l.toArray⟩ : ByteArray)) ∘ (fun s : ByteArray => s.data.toList) = id := by funext s; rfl
  rw [this, List.map_id]
theorem srtS_eq {l : List ByteArray} (hn : l.Nodup) : srtS l = sortS l := by
  refine sortS_uniq ?_ fun y => (srtS_perm l).mem_iff
  have hp : (srtS l).Pairwise fun a b => a.data.toList ≤ b.data.toList := by
    unfold srtS
    refine List.Pairwise.map (R := fun x y : List UInt8 => (decide (x ≤ y)) = true) _ (fun a b h => by simpa using h) ?_
    exact List.pairwise_mergeSort (fun a b c h1 h2 => by simp only [decide_eq_true_eq] at *; exact List.le_trans h1 h2) (fun a b => by simp only [Bool.or_eq_true, decide_eq_true_eq]; exact List.le_total a b) _
  have hnd : (srtS l).Nodup := (srtS_perm l).nodup_iff.2 hn
  have hboth := hp.and hnd
  refine hboth.imp fun {a b} h => ?_
  obtain ⟨h1, h2⟩ := h
  unfold ltS
  rcases blt_total h2 with h3 | h3
  · exact h3
  · unfold blt at h3
    rw [ByteArray.toList_eq, ByteArray.toList_eq, bl_lt] at h3
    exact absurd h3 h1
theorem kAt_setS {α κ : Type} [DecidableEq κ] {kf : α → κ} {k : κ} {y : α} : ∀ {xs : List α} {i : Nat} {z : α}, kAt kf (kf y) xs = some (i, z) → (kAt kf k (xs.set i y)).map Prod.snd = if kf y = k then some y else (kAt kf k xs).map Prod.snd
  | [], _, _, h => by simp [kAt] at h
  | x :: xs, i, z, h => by
    simp only [kAt] at h
    split at h
    · rename_i hx
      simp only [Option.some.injEq, Prod.mk.injEq] at h
      obtain ⟨rfl, rfl⟩ := h
      simp only [List.set_cons_zero, kAt]
      by_cases hk : kf y = k
      · simp [hk]
      · have : ¬ kf x = k := fun e => hk (hx ▸ e)
        simp [hk, this]
    · rename_i hx
      cases hq : kAt kf (kf y) xs with
      | none => rw [hq] at h; cases h
      | some q =>
        rw [hq] at h
        simp only [Option.map_some, Option.some.injEq, Prod.mk.injEq] at h
        obtain ⟨rfl, rfl⟩ := h
        have ih := kAt_setS (k := k) (i := q.1) (z := q.2) hq
        simp only [List.set_cons_succ, kAt]
        by_cases hk : kf x = k
        · have : ¬ kf y = k := fun e => hx (hk.trans e.symm)
          simp [hk, this]
        · rw [if_neg hk, if_neg hk]
          cases h1 : kAt kf k (xs.set q.1 y) <;> cases h2 : kAt kf k xs <;> rw [h1, h2] at ih <;> simpa using ih
theorem kAt_appS {α κ : Type} [DecidableEq κ] {kf : α → κ} {k : κ} {y : α} : ∀ {xs : List α}, kAt kf (kf y) xs = none → (kAt kf k (xs ++ [y])).map Prod.snd = if kf y = k then some y else (kAt kf k xs).map Prod.snd
  | [], _ => by simp only [List.nil_append, kAt]; split <;> rfl
  | x :: xs, h => by
    simp only [kAt] at h
    split at h
    · cases h
    · rename_i hx
      have hn : kAt kf (kf y) xs = none := by
        cases hq : kAt kf (kf y) xs with
        | none => rfl
        | some q => rw [hq] at h; cases h
      have ih := kAt_appS (k := k) hn
      simp only [List.cons_append, kAt]
      by_cases hk : kf x = k
      · have : ¬ kf y = k := fun e => hx (hk.trans e.symm)
        simp [hk, this]
      · rw [if_neg hk, if_neg hk]
        cases h1 : kAt kf k (xs ++ [y]) <;> cases h2 : kAt kf k xs <;> rw [h1, h2] at ih <;> simpa using ih
theorem kAt_kSet {α κ : Type} [DecidableEq κ] {kf : α → κ} {k : κ} {y : α} {xs : List α} : (kAt kf k (kSet kf y xs)).map Prod.snd = if kf y = k then some y else (kAt kf k xs).map Prod.snd := by
  unfold kSet
  cases h : kAt kf (kf y) xs with
  | none => exact kAt_appS h
  | some q => exact kAt_setS (i := q.1) (z := q.2) h
theorem kSet_keys {α κ : Type} [DecidableEq κ] {kf : α → κ} {y : α} {xs : List α} : (kSet kf y xs).map kf = if kf y ∈ xs.map kf then xs.map kf else xs.map kf ++ [kf y] := by
  unfold kSet
  cases h : kAt kf (kf y) xs with
  | none =>
    have hn : ¬ kf y ∈ xs.map kf := fun hm => by
      obtain ⟨x, hx, e⟩ := List.mem_map.1 hm
      exact kAt_none h x hx e
    rw [if_neg hn]; simp
  | some q =>
    obtain ⟨h1, h2⟩ := kAt_some (x := q.2) (i := q.1) h
    have hm : kf y ∈ xs.map kf := List.mem_map.2 ⟨q.2, List.mem_of_getElem? h1, h2⟩
    rw [if_pos hm]
    show (xs.set q.1 y).map kf = _
    rw [List.map_set]
    exact setId (by rw [List.getElem?_map, h1]; exact congrArg some h2)
structure Am where
  cur : ByteArray
  a : Int
  b : Int
abbrev amF (x : Am) : Value := St x.cur
abbrev amG (x : Am) : Value := .agg ⟨[I x.a, I x.b]⟩
def amAt (ms : List Am) (c : ByteArray) : Am := ((kAt Am.cur c ms).map Prod.snd).getD ⟨c, 0, 0⟩
section
variable {P : Program} {β : Base} {E : Env} {L M : List HP} {K : Value → List HP → Prop} {d : Option Tmp} {ty : TypeId} {pos : String} {af : Array Edge} {gd : Option (Nat × Bool)} {x y : Operand} {t kt et : TypeId} {b : Nat}
theorem OpJ.lookupM {ms : List Am} {c : ByteArray} (Mp : MPI P t kt et) (U : UI P kt .string) (Z : ZVI P et (.agg ⟨[I 0, I 0]⟩)) (hx : E.ev x = some (.map (some b))) (hy : E.ev y = some (St c)) (p : Pick L (amap b amF amG ms) M)
    (h : K (amG (amAt ms c)) L) : OpJ P β E L ⟨d, .lookup t x y false, ty, pos, af, gd⟩ K :=
  OpJ.lookup1 keyStr Mp U Z hx hy p (by unfold amAt at h; revert h; cases kAt Am.cur c ms <;> exact fun h => h)
end
abbrev wr (n : Int) : Int := IntKind.i64.wrap n
theorem wr_add (a b : Int) : wr (wr a + b) = wr (a + b) := by unfold wr; rw [IntKind.wrap_i64, IntKind.wrap_i64, IntKind.wrap_i64]; omega
structure AmI (ms : List Am) (p : List Cl) : Prop where
  val : ∀ c, (amAt ms c).a = wr (sumA (byC c p)) ∧ (amAt ms c).b = wr (sumB (byC c p))
  nod : (ms.map Am.cur).Nodup
  mem : ∀ c, c ∈ ms.map Am.cur ↔ c ∈ p.map fun x => x.k.cur
  len : ms.length ≤ p.length
theorem AmI.start : AmI [] [] := ⟨fun c => ⟨show (0 : Int) = wr 0 by decide, show (0 : Int) = wr 0 by decide⟩, List.nodup_nil, fun c => by simp, Nat.le_refl _⟩
abbrev amNew (ms : List Am) (x : Cl) : Am := ⟨x.k.cur, wr ((amAt ms x.k.cur).a + x.amt), wr ((amAt ms x.k.cur).b + x.base)⟩
theorem byC_app (c : ByteArray) (p q : List Cl) : byC c (p ++ q) = byC c p ++ byC c q := List.filter_append ..
theorem AmI.step {ms : List Am} {p : List Cl} (h : AmI ms p) (x : Cl) : AmI (kSet Am.cur (amNew ms x) ms) (p ++ [x]) := by
  have hkeys := kSet_keys (kf := Am.cur) (y := amNew ms x) (xs := ms)
  refine ⟨fun c => ?_, ?_, fun c => ?_, ?_⟩
  · have hv := h.val c
    unfold amAt
    rw [kAt_kSet, byC_app]
    by_cases e : x.k.cur = c
    · subst e
      rw [if_pos rfl]
      have hb : byC x.k.cur [x] = [x] := by simp [byC]
      rw [hb]
      simp only [Option.getD_some, sumA, sumB, List.map_append, List.sum_append_int, List.map_cons, List.map_nil, List.sum_cons, List.sum_nil, Int.add_zero]
      rw [hv.1, hv.2, wr_add, wr_add]
      exact ⟨rfl, rfl⟩
    · rw [if_neg e]
      have hb : byC c [x] = [] := by simp [byC, e]
      rw [hb, List.append_nil]; exact hv
  · rw [hkeys]
    split
    · exact h.nod
    · rename_i hn
      exact List.nodup_append.2 ⟨h.nod, by simp, fun a ha b hb e => by rw [List.mem_singleton.1 hb] at e; subst e; exact hn ha⟩
  · rw [hkeys, List.map_append, List.mem_append, ← h.mem c]
    split
    · rename_i hm
      simp only [List.map_cons, List.map_nil, List.mem_singleton]
      exact ⟨fun h => .inl h, fun h => h.elim id fun e => by rw [e]; exact hm⟩
    · rw [List.mem_append]; simp
  · have h2 := congrArg List.length hkeys
    have h3 := h.len
    rw [List.length_map] at h2
    rw [h2]
    split <;> simp <;> omega
theorem AmI.keys {ms : List Am} {s : List Cl} (h : AmI ms s) : srtS (ms.map Am.cur) = curS s := by
  rw [srtS_eq h.nod]
  unfold curS
  exact sortS_uniq (sortS_pair _) fun y => by rw [sortS_mem, h.mem]
def againstW (s : List Cl) (to c : ByteArray) : Option Ln := if wr (sumA (byC c s)) = 0 ∧ wr (sumB (byC c s)) = 0 then none else some ⟨to, c, wr (sumA (byC c s)), wr (sumB (byC c s)), bs0, bs0, none, 0, []⟩
def transW (s : List Cl) (to : ByteArray) : List Ln := s.map negL ++ (curS s).filterMap (againstW s to)
def tagH (T : TypeId) (x : Ln) : HP := own T 2 x.ta x.tags.length x.tc (x.tags.flatMap Tg.c)
theorem tr_len {ls : List Ln} {p : List Cl} (h : ls.map Ln.e = p.map negL) : ls.length = p.length := by have := congrArg List.length h; simpa using this
theorem trw_len {ls : List Ln} {s : List Cl} {to : ByteArray} {i : Nat} (h : ls.map Ln.e = s.map negL ++ ((curS s).take i).filterMap (againstW s to)) : ls.length ≤ s.length + i := by
  have h1 := congrArg List.length h
  have h2 := List.length_filterMap_le (againstW s to) ((curS s).take i)
  rw [List.length_take] at h2
  simp only [List.length_map, List.length_append] at h1
  omega
theorem am_size {ms : List Am} {s : List Cl} (h : AmI ms s) {p q : Cl → Prop} (hz : ∀ x ∈ s, p x ∧ x.k.cur.size ≤ maxLen ∧ q x) : ∀ x ∈ ms, x.cur.size ≤ maxLen := fun x hx => by
  obtain ⟨y, hy, e⟩ := List.mem_map.1 ((h.mem x.cur).1 (List.mem_map_of_mem hx))
  rw [← e]; exact (hz y hy).2.1
theorem ag_step {s : List Cl} {to c : ByteArray} {i : Nat} (h : (curS s)[i]? = some c) : ((curS s).take (i + 1)).filterMap (againstW s to) = ((curS s).take i).filterMap (againstW s to) ++ (againstW s to c).toList := by
  rw [take_step h, List.filterMap_append]
  cases hc : againstW s to c <;> simp [hc]
end Go.SL

namespace Go.SL
open Go
def Small (s : List Cl) : Prop := ∀ x ∈ s, (-1000000000000000 ≤ x.amt ∧ x.amt ≤ 1000000000000000) ∧ (-1000000000000000 ≤ x.base ∧ x.base ≤ 1000000000000000)
theorem sum_small : ∀ {s : List Cl}, Small s → (-1000000000000000 * (s.length : Int) ≤ sumA s ∧ sumA s ≤ 1000000000000000 * s.length) ∧ (-1000000000000000 * (s.length : Int) ≤ sumB s ∧ sumB s ≤ 1000000000000000 * s.length)
  | [], _ => by simp [sumA, sumB]
  | x :: s, h => by
    have ih := sum_small (s := s) fun y hy => h y (by simp [hy])
    have hx := h x (by simp)
    simp only [sumA, sumB, List.map_cons, List.sum_cons, List.length_cons] at ih ⊢
    push_cast
    omega
theorem wr_small {s : List Cl} (h : Small s) (hl : s.length ≤ 100) (c : ByteArray) : wr (sumA (byC c s)) = sumA (byC c s) ∧ wr (sumB (byC c s)) = sumB (byC c s) := by
  have h2 : Small (byC c s) := fun x hx => h x (List.mem_filter.1 hx).1
  have hb := sum_small h2
  have hlen : (byC c s).length ≤ s.length := List.length_filter_le ..
  constructor <;> exact wrap_i64_in ⟨by omega, by omega⟩
theorem trans_small {s : List Cl} {to : ByteArray} (h : Small s) (hl : s.length ≤ 100) : transW s to = transL s to := by
  unfold transW transL
  congr 2
  funext c
  unfold againstW against
  rw [(wr_small h hl c).1, (wr_small h hl c).2]
theorem head_long {x : En} {ls : List Ln} (h1 : 100 < x.lines.length) (h2 : 100 < ls.length) : headE { x with lines := ls } = headE x := by
  unfold headE
  simp only
  rw [if_neg (show ¬ ls.length < 2 by omega), if_neg (show ¬ x.lines.length < 2 by omega), if_pos h2, if_pos h1]
theorem head_far {x : En} (h : 100 < x.lines.length) : ¬ headE x = 0 := fun h0 => by have := head_len h0; omega
theorem chk_far {x : En} (h : 100 < x.lines.length) : (chkN x).2 = headE x := by unfold chkN; rw [if_neg (head_far h)]
abbrev enMk (ent who : ByteArray) (book last : Int) (ls : List Ln) : En := ⟨0, ent, book, last, 4, bs0, who, 0, none, 0, ls⟩
theorem chk_trans {s : List Cl} (hs : Small s) (to ent who : ByteArray) (book last : Int) :
    (chkN (enMk ent who book last (transW s to))).2 = (chkN (enMk ent who book last (transL s to))).2 ∧ ((chkN (enMk ent who book last (transW s to))).2 = 0 → transW s to = transL s to) := by
  by_cases hl : s.length ≤ 100
  · have := trans_small (to := to) hs hl
    rw [this]; exact ⟨rfl, fun _ => rfl⟩
  · have h1 : 100 < (transW s to).length := by unfold transW; rw [List.length_append, List.length_map]; omega
    have h2 : 100 < (transL s to).length := by unfold transL; rw [List.length_append, List.length_map]; omega
    rw [chk_far (x := enMk ent who book last (transW s to)) h1, chk_far (x := enMk ent who book last (transL s to)) h2]
    refine ⟨head_long (x := enMk ent who book last (transL s to)) h2 h1, fun h0 => absurd h0 (head_far (x := enMk ent who book last (transW s to)) h1)⟩
theorem pick_len {m : List Ac} : ∀ {s r : List Cl}, pickR m s = some r → r.length ≤ s.length
  | [], r, h => by simp [pickR] at h; subst h; simp
  | x :: s, r, h => by
    simp only [pickR] at h
    cases hg : getL m x.k.acc with
    | none => rw [hg] at h; cases h
    | some a =>
      rw [hg] at h
      simp only at h
      split at h
      · cases hp : pickR m s with
        | none => rw [hp] at h; cases h
        | some t =>
          rw [hp, Option.map_some, Option.some.injEq] at h
          have ih := pick_len hp
          subst h
          split <;> simp <;> omega
      · cases h
theorem res_len {m : List Ac} {first : Int} {l : List En} {ent : ByteArray} {year book : Int} (hl : l.length ≤ 1000) : (resM m first l ent year book).1.length ≤ 100000 := by
  unfold resM
  split
  · simp
  · split
    · simp
    · split
      · have hr := replay_len (q := ⟨ent, 0, lastF first year, book⟩) hl
        cases hp : pickR m (replayL l ⟨ent, 0, lastF first year, book⟩).1 with
        | none => simp
        | some s => have := pick_len hp; simp only; omega
      · simp
abbrev CellOk (x : Cl) : Prop := x.k.tags.size < 4294967281 ∧ x.k.cur.size ≤ maxLen ∧ (-1000000000000000 ≤ x.amt ∧ x.amt ≤ 1000000000000000) ∧ (-1000000000000000 ≤ x.base ∧ x.base ≤ 1000000000000000)
theorem cur_mem {s : List Cl} {c : ByteArray} (h : c ∈ curS s) : ∃ x ∈ s, x.k.cur = c := by
  unfold curS at h
  rw [sortS_mem] at h
  exact List.mem_map.1 h
theorem tr_line {ls : List Ln} {s : List Cl} {to : ByteArray} (h : ls.map Ln.e = transW s to) (hz : ∀ x ∈ s, CellOk x) : ∀ l ∈ ls, (l.cur.size : Int) ≤ 9223372036854775807 ∧ i64 l.amt ∧ i64 l.base := fun l hl => by
  have hm : l.e ∈ transW s to := by rw [← h]; exact List.mem_map_of_mem hl
  have key : ∀ y : Ln, y ∈ transW s to → (y.cur.size : Int) ≤ 9223372036854775807 ∧ i64 y.amt ∧ i64 y.base := fun y hy => by
    unfold transW at hy
    rcases List.mem_append.1 hy with hy | hy
    · obtain ⟨x, hx, rfl⟩ := List.mem_map.1 hy
      have hk := hz x hx
      have h2 := hk.2.1
      unfold maxLen at h2
      refine ⟨?_, ?_, ?_⟩
      · show (x.k.cur.size : Int) ≤ _; omega
      · show i64 (-x.amt); unfold i64; omega
      · show i64 (-x.base); unfold i64; omega
    · obtain ⟨c, hc, he⟩ := List.mem_filterMap.1 hy
      obtain ⟨x, hx, rfl⟩ := cur_mem hc
      have hk := hz x hx
      have h2 := hk.2.1
      unfold maxLen at h2
      unfold againstW at he
      split at he
      · cases he
      · simp only [Option.some.injEq] at he
        subst he
        exact ⟨by show (x.k.cur.size : Int) ≤ _; omega, wrap_i64 _, wrap_i64 _⟩
  exact key l.e hm
theorem en_rd {T U : TypeId} {R : HP} {la : Option Addr} {lc : Nat} {ls : List Ln} {s : List Cl} {to ent who : ByteArray} {book last : Int} (h : ls.map Ln.e = transW s to) (hz : ∀ x ∈ s, CellOk x) :
    En.rd (stars [own T 7 la ls.length lc (ls.flatMap Ln.c), big (tagH U) ls, R]) ⟨0, ent, book, last, 4, bs0, who, 0, la, lc, ls⟩ :=
  ⟨RdS.inl own.rds, fun l hl => ⟨RdS.inr (RdS.inl (big_rds (f := tagH U) hl own.rds)), tr_line h hz l hl⟩⟩
theorem en_R0 {A B R : HP} (h : Rd R ⟨0, 0, none⟩ lensC) : Rd (stars [A, B, R]) ⟨0, 0, none⟩ lensC := (RdS.inr (RdS.inr (RdS.inl (Rd.rds h)))).rd (by simp [lensC, lensL])
section
variable {m : List Ac} {first : Int} {l : List En} {ent : ByteArray} {year book : Int} {to who : ByteArray} {a : Ac} {ls : List Ln} {la : Option Addr} {lc : Nat}
theorem ent_err (h : ¬ (resM m first l ent year book).2 = 0) : entM m first l ent year book to who = (en0, (resM m first l ent year book).2) := by unfold entM; rw [if_neg h]
theorem ent_no (h : (resM m first l ent year book).2 = 0) (hg : getL m to = none) : entM m first l ent year book to who = (en0, 12) := by unfold entM; rw [if_pos h, hg, if_pos rfl]
theorem ent_bad (h : (resM m first l ent year book).2 = 0) (hg : getL m to = some a) (hp : (a.post && decide (a.kind = 3)) = false) : entM m first l ent year book to who = (en0, 12) := by unfold entM; rw [if_pos h, hg]; simp only [hp]; rfl
theorem ent_nil (h : (resM m first l ent year book).2 = 0) (hg : getL m to = some a) (hp : a.post = true ∧ a.kind = 3) (hn : (resM m first l ent year book).1.length = 0) : entM m first l ent year book to who = (en0, 18) := by
  unfold entM; rw [if_pos h, hg]; simp only [hp.1, hp.2]; rw [if_neg (by simp), if_pos (List.eq_nil_of_length_eq_zero hn)]
theorem ent_fin (h : (resM m first l ent year book).2 = 0) (hg : getL m to = some a) (hp : a.post = true ∧ a.kind = 3) (hn : ¬ (resM m first l ent year book).1.length = 0) (hls : ls.map Ln.e = transW (resM m first l ent year book).1 to) (hz : ∀ x ∈ (resM m first l ent year book).1, CellOk x) :
    entM m first l ent year book to who = if (chkN ⟨0, ent, book, lastR m first l ent year book, 4, bs0, who, 0, la, lc, ls⟩).2 = 0 then (En.e ⟨0, ent, book, lastR m first l ent year book, 4, bs0, who, 0, la, lc, ls⟩, 0) else (en0, (chkN ⟨0, ent, book, lastR m first l ent year book, 4, bs0, who, 0, la, lc, ls⟩).2) := by
  have hlast : lastR m first l ent year book = lastF first year := by unfold lastR; rw [if_pos h]
  have hsm : Small (resM m first l ent year book).1 := fun x hx => (hz x hx).2.2
  obtain ⟨h1, h2⟩ := chk_trans hsm to ent who book (lastF first year)
  have he : En.e ⟨0, ent, book, lastR m first l ent year book, 4, bs0, who, 0, la, lc, ls⟩ = enMk ent who book (lastF first year) (transW (resM m first l ent year book).1 to) := by
    rw [hlast, ← hls]; rfl
  have hc : (chkN ⟨0, ent, book, lastR m first l ent year book, 4, bs0, who, 0, la, lc, ls⟩).2 = (chkN (enMk ent who book (lastF first year) (transW (resM m first l ent year book).1 to))).2 := by
    rw [← chkN_e, he]
  rw [hc, he]
  unfold entM; rw [if_pos h, hg]; simp only [hp.1, hp.2]
  rw [if_neg (by simp), if_neg (fun e => hn (by rw [e]; rfl))]
  by_cases h0 : (chkN (enMk ent who book (lastF first year) (transW (resM m first l ent year book).1 to))).2 = 0
  · rw [if_pos h0, if_pos (h1 ▸ h0), h2 h0]
  · rw [if_neg h0, if_neg (fun e => h0 (h1.trans e)), h1]
end
end Go.SL

namespace Go.SL
open Go
structure IsSheet (s : List Cl) : Prop where
  pair : s.Pairwise fun a b => ltK a.k b.k
  some : ∀ x ∈ s, ¬ (x.amt = 0 ∧ x.base = 0)
  fit : ∀ x ∈ s, withinB x.amt = true ∧ withinB x.base = true
theorem getA_cons (x : Cl) (s : List Cl) (k : Ky) : getA (x :: s) k = (if x.k = k then x.amt else 0) + getA s k := by
  unfold getA byK sumA
  by_cases h : x.k = k
  · rw [List.filter_cons_of_pos (by simpa using h), if_pos h]; rfl
  · rw [List.filter_cons_of_neg (by simpa using h), if_neg h, Int.zero_add]
theorem getB_cons (x : Cl) (s : List Cl) (k : Ky) : getB (x :: s) k = (if x.k = k then x.base else 0) + getB s k := by
  unfold getB byK sumB
  by_cases h : x.k = k
  · rw [List.filter_cons_of_pos (by simpa using h), if_pos h]; rfl
  · rw [List.filter_cons_of_neg (by simpa using h), if_neg h, Int.zero_add]
theorem get_none {s : List Cl} {k : Ky} (h : ∀ x ∈ s, x.k ≠ k) : getA s k = 0 ∧ getB s k = 0 := by
  have : byK k s = [] := List.filter_eq_nil_iff.2 fun x hx => by simpa using h x hx
  unfold getA getB; rw [this]; exact ⟨rfl, rfl⟩
theorem ofK_sheet {l : List Cl} : ∀ {ks : List Ky} {s : List Cl}, ks.Pairwise ltK → ofK l ks = some s → IsSheet s ∧ (∀ x ∈ s, x.k ∈ ks) ∧ (∀ k ∈ ks, getA s k = getA l k ∧ getB s k = getB l k)
  | [], s, _, h => by
    simp only [ofK, Option.some.injEq] at h; subst h
    exact ⟨⟨List.Pairwise.nil, (fun x hx => by cases hx), (fun x hx => by cases hx)⟩, (fun x hx => by cases hx), fun k hk => by cases hk⟩
  | k :: ks, s, hp, h => by
    rw [ofK_cons] at h
    rw [List.pairwise_cons] at hp
    split at h
    · rename_i hw
      cases hk : ofK l ks with
      | none => rw [hk] at h; cases h
      | some t =>
        obtain ⟨h1, h2, h3⟩ := ofK_sheet hp.2 hk
        rw [hk] at h
        simp only [Option.map_some, Option.some.injEq] at h
        have hnk : ∀ x ∈ t, x.k ≠ k := fun x hx e => by have := hp.1 _ (h2 x hx); rw [e] at this; exact ltK_irrefl _ this
        have hn := get_none hnk
        have hne : ∀ k' ∈ ks, k ≠ k' := fun k' hk' e => by have := hp.1 _ hk'; rw [e] at this; exact ltK_irrefl _ this
        split at h
        · rename_i hz
          subst h
          refine ⟨h1, fun x hx => List.mem_cons_of_mem _ (h2 x hx), fun k' hk' => ?_⟩
          rcases List.mem_cons.1 hk' with rfl | hk'
          · rw [hn.1, hn.2]; exact ⟨hz.1.symm, hz.2.symm⟩
          · exact h3 k' hk'
        · rename_i hz
          subst h
          refine ⟨⟨List.Pairwise.cons (fun x hx => hp.1 _ (h2 x hx)) h1.pair, fun x hx => ?_, fun x hx => ?_⟩, fun x hx => ?_, fun k' hk' => ?_⟩
          · rcases List.mem_cons.1 hx with rfl | hx
            · exact hz
            · exact h1.some x hx
          · rcases List.mem_cons.1 hx with rfl | hx
            · exact hw
            · exact h1.fit x hx
          · rcases List.mem_cons.1 hx with rfl | hx
            · simp
            · exact List.mem_cons_of_mem _ (h2 x hx)
          · rw [getA_cons, getB_cons]
            rcases List.mem_cons.1 hk' with rfl | hk'
            · rw [if_pos rfl, if_pos rfl, hn.1, hn.2, Int.add_zero, Int.add_zero]; exact ⟨rfl, rfl⟩
            · rw [if_neg (hne k' hk'), if_neg (hne k' hk'), Int.zero_add, Int.zero_add]; exact h3 k' hk'
    · cases h
theorem get_keys {l : List Cl} {k : Ky} (h : k ∉ keysL l) : getA l k = 0 ∧ getB l k = 0 := get_none fun x hx e => h (keysL_mem.2 ⟨x, hx, e⟩)
theorem sheet_is {l s : List Cl} (h : sheetL l = some s) : IsSheet s ∧ ∀ k, getA s k = getA l k ∧ getB s k = getB l k := by
  obtain ⟨h1, h2, h3⟩ := ofK_sheet (keysL_pair l) h
  refine ⟨h1, fun k => ?_⟩
  by_cases hk : k ∈ keysL l
  · exact h3 k hk
  · have e1 := get_keys hk
    have e2 := get_none (s := s) (k := k) fun x hx e => hk (by rw [← e]; exact h2 x hx)
    omega
theorem IsSheet.filter {s : List Cl} (h : IsSheet s) (p : Cl → Bool) : IsSheet (s.filter p) :=
  ⟨h.pair.filter p, fun x hx => h.some x ((List.mem_filter.1 hx).1), fun x hx => h.fit x ((List.mem_filter.1 hx).1)⟩
end Go.SL

namespace Go.SL
open Go
def noTo (xs : List Ac) (c : ByteArray) (i : Nat) : Prop := ∀ (j : Nat) (a : Ac), j < i → xs[j]? = some a → a.code ≠ c
theorem noTo.zero {xs : List Ac} {c : ByteArray} : noTo xs c 0 := fun j a h => by omega
theorem noTo.step {xs : List Ac} {c : ByteArray} {i : Nat} {a : Ac} (h : noTo xs c i) (ha : xs[i]? = some a) (hn : ¬ a.code = c) : noTo xs c (i + 1) := fun j b hj hb => by
  by_cases e : j = i
  · subst e; rw [ha] at hb; cases hb; exact hn
  · exact h j b (by omega) hb
theorem noTo.all {xs : List Ac} {c : ByteArray} {i : Nat} (h : noTo xs c i) (hi : xs.length ≤ i) : kAt Ac.code c xs = none := kAt_no fun a ha => by
  obtain ⟨j, hj, rfl⟩ := List.getElem_of_mem ha
  exact h j _ (Nat.lt_of_lt_of_le hj hi) (List.getElem?_eq_getElem hj)
theorem noTo.at : ∀ {xs : List Ac} {c : ByteArray} {i : Nat} {a : Ac}, noTo xs c i → xs[i]? = some a → a.code = c → kAt Ac.code c xs = some (i, a)
  | x :: xs, c, 0, a, h, ha, hc => by simp at ha; subst ha; simp only [kAt]; rw [if_pos hc]
  | x :: xs, c, i + 1, a, h, ha, hc => by
    simp only [kAt]
    rw [if_neg (h 0 x (by omega) rfl), noTo.at (xs := xs) (i := i) (fun j b hj hb => h (j + 1) b (by omega) (by simpa using hb)) (by simpa using ha) hc]; rfl
def findX (xs : List Ac) (c : ByteArray) : Int := match kAt Ac.code c xs with | some q => q.1 | none => -1
theorem find_all {xs : List Ac} {c : ByteArray} {i : Nat} (h : noTo xs c i) (hi : xs.length ≤ i) : findX xs c = -1 := by unfold findX; rw [h.all hi]
theorem find_at {xs : List Ac} {c : ByteArray} {i : Nat} {a : Ac} (h : noTo xs c i) (ha : xs[i]? = some a) (hc : a.code = c) : findX xs c = i := by unfold findX; rw [h.at ha hc]
theorem find_some {xs : List Ac} {c : ByteArray} {i : Nat} {a : Ac} (h : kAt Ac.code c xs = some (i, a)) : findX xs c = i ∧ xs[i]? = some a ∧ a.code = c ∧ getL xs c = some a := ⟨by unfold findX; rw [h], (kAt_some h).1, (kAt_some h).2, gotL_some h⟩
theorem find_none {xs : List Ac} {c : ByteArray} (h : kAt Ac.code c xs = none) : findX xs c = -1 ∧ getL xs c = none := ⟨by unfold findX; rw [h], gotL_none h⟩
theorem find_or (xs : List Ac) (c : ByteArray) : (findX xs c = -1 ∧ getL xs c = none) ∨ ∃ (i : Nat) (a : Ac), findX xs c = i ∧ xs[i]? = some a ∧ a.code = c ∧ getL xs c = some a := by
  cases h : kAt Ac.code c xs with
  | none => exact .inl (find_none h)
  | some q => exact .inr ⟨q.1, q.2, find_some h⟩
theorem find_take {xs : List Ac} {c : ByteArray} {i : Nat} (h : findX xs c = i) : getL (xs.take i) c = none := by
  cases hk : kAt Ac.code c xs with
  | none => rw [(find_none hk).1] at h; omega
  | some q =>
    have hq := find_some (xs := xs) (c := c) (i := q.1) (a := q.2) hk
    have e : q.1 = i := by rw [hq.1] at h; omega
    have key : ∀ {xs : List Ac} {i : Nat} {a : Ac}, kAt Ac.code c xs = some (i, a) → getL (xs.take i) c = none := fun {xs} => by
      induction xs with
      | nil => intro i a h; cases h
      | cons x r ih =>
        intro i a h
        simp only [kAt] at h
        split at h
        · simp only [Option.some.injEq, Prod.mk.injEq] at h; rw [← h.1]; rfl
        · rename_i hx
          cases hr : kAt Ac.code c r with
          | none => rw [hr] at h; cases h
          | some p =>
            rw [hr] at h
            simp only [Option.map_some, Option.some.injEq, Prod.mk.injEq] at h
            rw [← h.1, List.take_succ_cons]
            unfold getL
            rw [List.find?_cons_of_neg (by simpa using hx)]
            exact ih (i := p.1) (a := p.2) hr
    rw [← e]; exact key (a := q.2) hk
theorem ref_alone {xs : List Ac} {i : Nat} {a : Ac} (hc : codeB a.code = true) (hp : a.parent = bs0 ∨ codeB a.parent = true) (hn : a.need.all codeB = true) (hk : ¬ (a.kind < 1 ∨ 5 < a.kind)) (hu : a.cur = bs0 ∨ curB a.cur = true) (hf : findX xs a.code = i) (hr : risB a.need = true) (h6 : ¬ 6 < a.need.length) : aloneB (xs.take i) a = true := by
  unfold aloneB namesB optB
  rw [hn, hc, find_take hf, hr]
  have e1 : inB a.kind 1 5 = true := by unfold inB; simp; omega
  rw [e1]
  rcases hp with hp | hp <;> rcases hu with hu | hu <;> simp [hp, hu] <;> omega
def ancN (xs : List Ac) (up : ByteArray) : Nat → ByteArray → Bool
  | 0, _ => false
  | n + 1, c => match getL xs c with | none => false | some a => if a.parent = bs0 then false else if a.parent = up then true else ancN xs up n a.parent
theorem anc_none {xs : List Ac} {up c : ByteArray} {n : Nat} (h : getL xs c = none) : ancN xs up n c = false := by cases n <;> simp [ancN, h]
theorem anc_root {xs : List Ac} {up c : ByteArray} {n : Nat} {a : Ac} (h : getL xs c = some a) (hp : a.parent = bs0) : ancN xs up n c = false := by cases n <;> simp [ancN, h, hp]
theorem anc_hit {xs : List Ac} {up c : ByteArray} {n : Nat} {a : Ac} (h : getL xs c = some a) (hn : ¬ a.parent = bs0) (hp : a.parent = up) : ancN xs up (n + 1) c = true := by simp only [ancN, h]; rw [if_neg hn, if_pos hp]
theorem anc_step {xs : List Ac} {up c : ByteArray} {n : Nat} {a : Ac} (h : getL xs c = some a) (hn : ¬ a.parent = bs0) (hp : ¬ a.parent = up) : ancN xs up (n + 1) c = ancN xs up n a.parent := by simp only [ancN, h]; rw [if_neg hn, if_neg hp]
theorem par_of {xs : List Ac} {c : ByteArray} {a : Ac} (h : getL xs c = some a) : parOf xs c = a.parent := by unfold parOf; rw [h]
theorem par_no {xs : List Ac} {c : ByteArray} (h : getL xs c = none) : parOf xs c = bs0 := by unfold parOf; rw [h]
theorem circ_nil {xs : List Ac} {code : ByteArray} (h0 : getL xs bs0 = none) (hc : ¬ code = bs0) : ∀ n, circN xs code n bs0 = false
  | 0 => rfl
  | n + 1 => by rw [circN, if_neg (fun h => hc h.symm), par_no h0, circ_nil h0 hc n]
theorem circ_anc {xs : List Ac} {code : ByteArray} (h0 : getL xs bs0 = none) (hc : ¬ code = bs0) : ∀ {n : Nat} {c : ByteArray}, ancN xs code n c = false → circN xs code n (parOf xs c) = false
  | 0, _, _ => rfl
  | n + 1, c, h => by
    cases hg : getL xs c with
    | none => rw [par_no hg]; exact circ_nil h0 hc _
    | some a =>
      rw [par_of hg]
      by_cases hb : a.parent = bs0
      · rw [hb]; exact circ_nil h0 hc _
      · by_cases hp : a.parent = code
        · rw [anc_hit hg hb hp] at h; cases h
        · rw [anc_step hg hb hp] at h
          rw [circN, if_neg hp]; exact circ_anc h0 hc h
theorem code_ne {c : ByteArray} (h : codeB c = true) : ¬ c = bs0 := fun e => by
  have h2 : codeB bs0 = false := by with_unfolding_all rfl
  rw [e, h2] at h; cases h
theorem getL_code {xs : List Ac} {c : ByteArray} {a : Ac} (h : getL xs c = some a) : a ∈ xs ∧ a.code = c := ⟨List.mem_of_find?_eq_some h, by simpa using List.find?_some h⟩
theorem alone_code {xs : List Ac} {a : Ac} (h : aloneB xs a = true) : codeB a.code = true := by
  unfold aloneB namesB at h
  simp only [Bool.and_eq_true] at h
  exact h.1.1.1.1.1.2
theorem no_nil {xs : List Ac} (h : aloneTo xs xs.length) : getL xs bs0 = none := by
  cases hg : getL xs bs0 with
  | none => rfl
  | some a =>
    obtain ⟨hm, hc⟩ := getL_code hg
    obtain ⟨j, hj, rfl⟩ := List.getElem_of_mem hm
    exact absurd hc (code_ne (alone_code (h j _ hj (List.getElem?_eq_getElem hj))))
theorem ref_root {xs : List Ac} {a : Ac} (h : a.parent = bs0) : belowB xs a = true := by unfold belowB; rw [decide_eq_true h, Bool.true_or]
theorem ref_below {xs : List Ac} {a up : Ac} (h0 : aloneTo xs xs.length) (hc : codeB a.code = true) (hg : getL xs a.parent = some up) (hk : up.kind = a.kind) (hp : up.post = false) (ha : ancN xs a.code xs.length a.code = false) : belowB xs a = true := by
  unfold belowB
  rw [hg]
  have hcirc : circB xs a.code = false := circ_anc (no_nil h0) (code_ne hc) ha
  simp [hk, hp, hcirc]
theorem aloneTo.at {xs : List Ac} {i : Nat} {a : Ac} (h : aloneTo xs i) (ha : xs[i]? = some a) (hb : aloneB (xs.take i) a = true) : aloneTo xs (i + 1) := fun j b hj hx => by
  by_cases e : j = i
  · subst e; rw [ha] at hx; cases hx; exact hb
  · exact h j b (by omega) hx
theorem belowTo.at {xs : List Ac} {i : Nat} {a : Ac} (h : belowTo xs i) (ha : xs[i]? = some a) (hb : belowB xs a = true) : belowTo xs (i + 1) := fun j b hj hx => by
  by_cases e : j = i
  · subst e; rw [ha] at hx; cases hx; exact hb
  · exact h j b (by omega) hx
end Go.SL

namespace Go.SL
open Go
theorem ofK_mem {l : List Cl} : ∀ {ks : List Ky} {s : List Cl}, ofK l ks = some s → ∀ x ∈ s, x.k ∈ ks ∧ withinB x.amt = true ∧ withinB x.base = true
  | [], s, h, x, hx => by simp [ofK] at h; subst h; cases hx
  | k :: ks, s, h, x, hx => by
    simp only [ofK] at h
    split at h
    · rename_i hw
      cases h2 : ofK l ks with
      | none => rw [h2] at h; cases h
      | some t =>
        rw [h2, Option.map_some, Option.some.injEq] at h
        have ih := ofK_mem h2
        subst h
        split at hx
        · have := ih x hx; exact ⟨by simp [this.1], this.2⟩
        · rcases List.mem_cons.1 hx with rfl | hx
          · exact ⟨by simp, hw⟩
          · have := ih x hx; exact ⟨by simp [this.1], this.2⟩
    · cases h
theorem sheet_mem {l s : List Cl} (h : sheetL l = some s) : ∀ x ∈ s, (∃ y ∈ l, y.k = x.k) ∧ withinB x.amt = true ∧ withinB x.base = true := fun x hx => by
  have h1 := ofK_mem h x hx
  refine ⟨?_, h1.2⟩
  rcases keys_fold_mem.1 h1.1 with h2 | h2
  · cases h2
  · exact h2
theorem pick_sub {m : List Ac} : ∀ {s r : List Cl}, pickR m s = some r → ∀ x ∈ r, x ∈ s
  | [], r, h, x, hx => by simp [pickR] at h; subst h; exact hx
  | y :: s, r, h, x, hx => by
    simp only [pickR] at h
    cases hg : getL m y.k.acc with
    | none => rw [hg] at h; cases h
    | some a =>
      rw [hg] at h
      simp only at h
      split at h
      · cases hp : pickR m s with
        | none => rw [hp] at h; cases h
        | some t =>
          rw [hp, Option.map_some, Option.some.injEq] at h
          have ih := pick_sub hp
          subst h
          split at hx
          · rcases List.mem_cons.1 hx with rfl | hx
            · simp
            · simp [ih x hx]
          · simp [ih x hx]
      · cases h
theorem linesE_zero : ∀ {ls : List Ln} {i : Nat}, linesE i ls = none → ∀ l ∈ ls, lineE l = 0
  | [], _, _, l, hl => by cases hl
  | x :: r, i, h, l, hl => by
    simp only [linesE] at h
    split at h
    · rename_i h0
      rcases List.mem_cons.1 hl with rfl | hl
      · exact h0
      · exact linesE_zero h l hl
    · cases h
theorem text_size : ∀ {ts : List Tg} {i : Nat} {s : ByteArray}, (∀ t ∈ ts, tgOk t = true) → (textI i s ts).size ≤ s.size + 30 * ts.length
  | [], _, _, _ => by simp [textI]
  | t :: r, i, s, h => by
    have ht := tg_size (h t (by simp))
    have ih := text_size (ts := r) (i := i + 1) (s := (if i = 0 then s else s ++ comma) ++ (t.name ++ equals ++ t.value)) fun u hu => h u (by simp [hu])
    have hc : comma.size = 1 := rfl
    have he : equals.size = 1 := rfl
    have hif : (if i = 0 then s else s ++ comma).size ≤ s.size + 1 := by split <;> simp [hc]
    rw [textI, List.length_cons]
    simp only [app_size, he] at ih
    omega
theorem textV_size (ts : List Tg) : (textV ts).size ≤ 180 := by
  unfold textV
  split
  · rename_i h
    have hl := right_len h
    have := text_size (ts := ts) (i := 0) (s := bs0) fun t ht => by obtain ⟨j, hj, rfl⟩ := List.getElem_of_mem ht; exact right_at h (List.getElem?_eq_getElem hj)
    unfold textL
    have h0 : bs0.size = 0 := rfl
    omega
  · exact Nat.zero_le _
theorem linesE_some : ∀ {ls : List Ln} {i : Nat} {q : Nat × Int}, linesE i ls = some q → q.2 ≠ 0
  | [], _, _, h => by cases h
  | x :: r, i, q, h => by
    simp only [linesE] at h
    split at h
    · exact linesE_some h
    · rename_i h0; cases h; exact h0
theorem chk_lines {e : En} (h : (chkN e).2 = 0) : ∀ l ∈ e.lines, lineE l = 0 := by
  unfold chkN at h
  by_cases hh : headE e = 0
  · rw [if_pos hh] at h
    cases hl : linesE 0 e.lines with
    | none => exact linesE_zero hl
    | some q =>
      rw [hl] at h
      intro l hm
      exact absurd h (linesE_some hl)
  · rw [if_neg hh] at h; exact absurd h hh
theorem line_cur {l : Ln} (h : lineE l = 0) : l.cur.size ≤ 3 := by
  unfold lineE at h
  split at h
  · cases h
  · split at h
    · cases h
    · rename_i hc
      have hc2 : curB l.cur = true := by simpa using hc
      unfold curB at hc2
      simp only [Bool.and_eq_true, decide_eq_true_eq] at hc2
      omega
theorem cell_raw {q : Qy} {l : List En} {x : Cl} (h : x ∈ cellsL q l) : ∃ e ∈ l, ∃ y ∈ e.lines, x = rawF e y := by
  unfold cellsL at h
  obtain ⟨e, he, hx⟩ := List.mem_flatMap.1 h
  split at hx
  · rw [raw_eq] at hx
    obtain ⟨y, hy, rfl⟩ := List.mem_map.1 hx
    exact ⟨e, he, y, hy, rfl⟩
  · cases hx
theorem replay_ok {l : List En} {q : Qy} : ∀ x ∈ (replayL l q).1, CellOk x := fun x hx => by
  unfold replayL at hx
  split at hx
  · rename_i h0
    cases hs : sheetL (cellsL q l) with
    | none => rw [hs] at hx; cases hx
    | some s =>
      rw [hs] at hx
      obtain ⟨⟨y, hy, hk⟩, ha, hb⟩ := sheet_mem hs x hx
      obtain ⟨e, he, z, hz, rfl⟩ := cell_raw hy
      have hc := line_cur (chk_lines (errL_zero h0 e he) z hz)
      have ht := textV_size z.tags
      unfold withinB at ha hb
      simp only [decide_eq_true_eq] at ha hb
      refine ⟨?_, ?_, ha, hb⟩
      · rw [← hk]; show (textV z.tags).size < _; omega
      · rw [← hk]; show z.cur.size ≤ _; unfold maxLen; omega
  · cases hx
theorem res_ok {m : List Ac} {first : Int} {l : List En} {ent : ByteArray} {year book : Int} : ∀ x ∈ (resM m first l ent year book).1, CellOk x := fun x hx => by
  unfold resM at hx
  split at hx
  · cases hx
  · split at hx
    · cases hx
    · split at hx
      · cases hp : pickR m (replayL l ⟨ent, 0, lastF first year, book⟩).1 with
        | none => rw [hp] at hx; cases hx
        | some s => rw [hp] at hx; exact replay_ok x (pick_sub hp x hx)
      · cases hx
end Go.SL

namespace Go.SL
open Go
structure ResOk (xs : List Ac) (first : Int) (l : List En) (ent : ByteArray) (year book : Int) (s all : List Cl) : Prop where
  cal : 1 ≤ first ∧ first ≤ 12
  yr : yearB first year = true
  err : errL l = 0
  play : sheetL (cellsL ⟨ent, 0, lastF first year, book⟩ l) = some all
  pick : pickR xs all = some s
section
variable {xs : List Ac} {first : Int} {l : List En} {ent : ByteArray} {year book : Int} {s all : List Cl}
theorem ResOk.rep (h : ResOk xs first l ent year book s all) : replayL l ⟨ent, 0, lastF first year, book⟩ = (all, 0) := by unfold replayL; rw [if_pos h.err, h.play]
theorem ResOk.res (h : ResOk xs first l ent year book s all) : resM xs first l ent year book = (s, 0) := by
  have hr := h.rep
  rw [res_pickS h.cal h.yr (by rw [hr]) (by rw [hr]; exact h.pick)]
theorem res_ok2 (h : (resM xs first l ent year book).2 = 0) : ∃ all, ResOk xs first l ent year book (resM xs first l ent year book).1 all := by
  by_cases hc : 1 ≤ first ∧ first ≤ 12
  · cases hy : yearB first year with
    | false => unfold resM at h; rw [if_neg (fun h => h hc), hy, if_pos rfl] at h; cases h
    | true =>
      by_cases hr : (replayL l ⟨ent, 0, lastF first year, book⟩).2 = 0
      · cases hp : pickR xs (replayL l ⟨ent, 0, lastF first year, book⟩).1 with
        | none => rw [res_pickN hc hy hr hp] at h; cases h
        | some s =>
          rw [res_pickS hc hy hr hp]
          refine ⟨_, hc, hy, ?_, ?_, hp⟩
          · by_cases he : errL l = 0
            · exact he
            · unfold replayL at hr; rw [if_neg he] at hr; exact absurd hr he
          · by_cases he : errL l = 0
            · unfold replayL at hr ⊢
              rw [if_pos he] at hr ⊢
              cases hs : sheetL (cellsL ⟨ent, 0, lastF first year, book⟩ l) with
              | none => rw [hs] at hr; cases hr
              | some t => rfl
            · unfold replayL at hr; rw [if_neg he] at hr; exact absurd hr he
      · rw [res_play hc hy xs l ent book hr] at h; exact absurd h hr
  · unfold resM at h; rw [if_pos hc] at h; cases h
theorem ResOk.span (h : ResOk xs first l ent year book s all) : spanM first year 13 = (lastF first year, lastF first year, 0) := by unfold spanM; rw [if_neg (fun g => g h.cal), h.yr, if_neg (by with_unfolding_all decide), if_pos rfl]
theorem ResOk.is (h : ResOk xs first l ent year book s all) : IsSheet all ∧ ∀ k, getA all k = getA (cellsL ⟨ent, 0, lastF first year, book⟩ l) k ∧ getB all k = getB (cellsL ⟨ent, 0, lastF first year, book⟩ l) k := sheet_is h.play
end
end Go.SL

namespace Go.SL
open Go
section
variable {xs : List Ac} {first : Int} {l : List En} {ent : ByteArray} {year book : Int} {to who : ByteArray} {s all : List Cl}
structure EntOk (xs : List Ac) (first : Int) (l : List En) (ent : ByteArray) (year book : Int) (to who : ByteArray) (s all : List Cl) (a : Ac) : Prop where
  res : ResOk xs first l ent year book s all
  get : getL xs to = some a
  post : a.post = true
  kind : a.kind = 3
  some : ¬ s = []
  chk : (chkN (enMk ent who book (lastF first year) (transL s to))).2 = 0
theorem EntOk.val {a : Ac} (h : EntOk xs first l ent year book to who s all a) : entM xs first l ent year book to who = (enMk ent who book (lastF first year) (transL s to), 0) := by
  unfold entM
  rw [h.res.res, if_pos rfl, h.get]
  simp only [h.post, h.kind]
  rw [if_neg (by simp), if_neg h.some]
  simp only [h.chk]; rfl
end
theorem year_in {first year : Int} (h : yearB first year = true) : 1900 ≤ year ∧ year ≤ 2199 := by
  unfold yearB at h; simp only [decide_eq_true_eq] at h; omega
def totL (l : List En) : Nat := (l.map fun e => e.lines.length).sum
theorem tot_cons (e : En) (l : List En) : totL (e :: l) = e.lines.length + totL l := by unfold totL; simp
theorem tot_app (a b : List En) : totL (a ++ b) = totL a + totL b := by unfold totL; simp
theorem line_far {l : Ln} (h : lineE l = 0) : (-1000000000000 ≤ l.amt ∧ l.amt ≤ 1000000000000) ∧ (-1000000000000 ≤ l.base ∧ l.base ≤ 1000000000000) := by
  unfold lineE at h
  split at h; · cases h
  split at h; · cases h
  split at h; · cases h
  rename_i h3
  unfold wiB at h3
  simp only [Bool.or_eq_true, Bool.not_eq_true', decide_eq_false_iff_not, not_or, Decidable.not_not] at h3
  exact h3
theorem line_tags {l : Ln} (h : lineE l = 0) : rightB l.tags = true := by
  unfold lineE at h
  split at h; · cases h
  split at h; · cases h
  split at h; · cases h
  split at h; · cases h
  split at h; · cases h
  rename_i h5
  simpa using h5
abbrev Tiny (s : List Cl) : Prop := ∀ x ∈ s, (-1000000000000 ≤ x.amt ∧ x.amt ≤ 1000000000000) ∧ (-1000000000000 ≤ x.base ∧ x.base ≤ 1000000000000)
theorem sum_tiny : ∀ {s : List Cl}, Tiny s → (-1000000000000 * (s.length : Int) ≤ sumA s ∧ sumA s ≤ 1000000000000 * s.length) ∧ (-1000000000000 * (s.length : Int) ≤ sumB s ∧ sumB s ≤ 1000000000000 * s.length)
  | [], _ => by simp [sumA, sumB]
  | x :: s, h => by
    have ih := sum_tiny (s := s) fun y hy => h y (by simp [hy])
    have hx := h x (by simp)
    simp only [sumA, sumB, List.map_cons, List.sum_cons, List.length_cons] at ih ⊢
    push_cast
    omega
theorem cells_tiny {q : Qy} {l : List En} (h : errL l = 0) : Tiny (cellsL q l) := fun x hx => by
  obtain ⟨e, he, y, hy, rfl⟩ := cells_mem hx
  exact line_far (chk_lines (errL_zero h e he) y hy)
end Go.SL

namespace Go.SL
open Go
theorem raw_tags {ts : List Tg} (h : rightB ts = true) : textV ts = textL ts ∧ parseT (textV ts) = some ts := by
  have e : textV ts = textL ts := by unfold textV; rw [if_pos h]
  rw [e]; exact ⟨rfl, parse_text h⟩
section
variable {xs : List Ac} {first : Int} {l : List En} {ent : ByteArray} {year book : Int} {to who : ByteArray} {s all : List Cl} {a : Ac}
end
end Go.SL

namespace Go.SL
open Go
abbrev s10 : ByteArray := ⟨#[49, 48]⟩
abbrev s30 : ByteArray := ⟨#[51, 48]⟩
abbrev s40 : ByteArray := ⟨#[52, 48]⟩
abbrev s50 : ByteArray := ⟨#[53, 48]⟩
abbrev sEUR : ByteArray := ⟨#[69, 85, 82]⟩
abbrev sa : ByteArray := ⟨#[97]⟩
abbrev su : ByteArray := ⟨#[117]⟩
abbrev acX (code : ByteArray) (kind : Int) : Ac := ⟨code, bs0, kind, true, bs0, false, false, none, 0, []⟩
abbrev xsX : List Ac := [acX s10 1, acX s30 3, acX s40 4, acX s50 5]
abbrev lnX (code : ByteArray) (n : Int) : Ln := ⟨code, sEUR, n, n, bs0, bs0, none, 0, []⟩
abbrev saleX (no value : Int) (code : ByteArray) (n : Int) (a : Option Addr) (c : Nat) : En := ⟨no, sa, 46100, value, 1, bs0, su, 0, a, c, [lnX s10 n, lnX code (-n)]⟩
abbrev lX (a1 : Option Addr) (c1 : Nat) (a2 : Option Addr) (c2 : Nat) (a3 : Option Addr) (c3 : Nat) : List En := [saleX 1 46000 s40 9 a1 c1, saleX 2 46010 s50 (-4) a2 c2, saleX 3 46021 s40 100 a3 c3]
theorem liv_chart : chartB xsX = true := by kernel_rfl
theorem liv_res (a1 : Option Addr) (c1 : Nat) (a2 : Option Addr) (c2 : Nat) (a3 : Option Addr) (c3 : Nat) : resM xsX 1 (lX a1 c1 a2 c2 a3 c3) sa 2025 46100 = ([⟨⟨sa, s40, sEUR, bs0, bs0⟩, -9, -9⟩, ⟨⟨sa, s50, sEUR, bs0, bs0⟩, 4, 4⟩], 0) := by kernel_rfl
theorem liv_ent (a1 : Option Addr) (c1 : Nat) (a2 : Option Addr) (c2 : Nat) (a3 : Option Addr) (c3 : Nat) : entM xsX 1 (lX a1 c1 a2 c2 a3 c3) sa 2025 46100 s30 su = (⟨0, sa, 46100, 46020, 4, bs0, su, 0, none, 0, [⟨s40, sEUR, 9, 9, bs0, bs0, none, 0, []⟩, ⟨s50, sEUR, -4, -4, bs0, bs0, none, 0, []⟩, ⟨s30, sEUR, -5, -5, bs0, bs0, none, 0, []⟩]⟩, 0) := by kernel_rfl
theorem liv_ent2 (a1 : Option Addr) (c1 : Nat) (a2 : Option Addr) (c2 : Nat) (a3 : Option Addr) (c3 : Nat) : (entM xsX 1 (lX a1 c1 a2 c2 a3 c3) sa 2025 46100 s10 su).2 = 12 := by kernel_rfl
theorem liv_ent3 (a1 : Option Addr) (c1 : Nat) (a2 : Option Addr) (c2 : Nat) (a3 : Option Addr) (c3 : Nat) : (entM xsX 1 (lX a1 c1 a2 c2 a3 c3) sa 2024 46100 s30 su).2 = 18 := by kernel_rfl
theorem liv_res2 (a1 : Option Addr) (c1 : Nat) (a2 : Option Addr) (c2 : Nat) (a3 : Option Addr) (c3 : Nat) : (resM xsX 1 (lX a1 c1 a2 c2 a3 c3) sa 2200 46100).2 = 16 := by kernel_rfl
theorem ent_st {m xs : List Ac} (h : m.map Ac.st = xs.map Ac.st) (first : Int) (l : List En) (ent : ByteArray) (year book : Int) (to who : ByteArray) : entM m first l ent year book to who = entM xs first l ent year book to who := by
  unfold entM
  rw [res_st h]
  have hg := get_st (code := to) h
  cases h1 : getL m to <;> cases h2 : getL xs to <;> rw [h1, h2] at hg <;> simp at hg ⊢
  have e1 := congrArg Ac.post hg
  have e2 := congrArg Ac.kind hg
  simp only [Ac.st] at e1 e2
  rw [e1, e2]
end Go.SL

namespace Go.SL
open Go
structure Cs where
  xa : Option Addr
  xc : Nat
  xs : List Ac
  first : Int
  la : Option Addr
  lc : Nat
  l : List En
  ent : ByteArray
  year : Int
  book : Int
  to : ByteArray
  who : ByteArray
def Cs.c (x : Cs) : List Value := [.slice x.xa x.xs.length x.xc, I x.first, .slice x.la x.l.length x.lc, St x.ent, I x.year, I x.book, St x.to, St x.who]
abbrev szS (s : ByteArray) : Prop := (s.size : Int) ≤ 9223372036854775807
structure Ac.sz (a : Ac) : Prop where
  code : szS a.code
  parent : szS a.parent
  cur : szS a.cur
  need : ∀ n ∈ a.need, szS n
structure Ln.sz (l : Ln) : Prop where
  acc : szS l.acc
  cur : szS l.cur
  partner : szS l.partner
  party : szS l.party
  tags : ∀ t ∈ l.tags, szS t.name ∧ szS t.value
  tl : l.tags.length ≤ 140737488355328
structure En.sz (e : En) : Prop where
  ent : szS e.ent
  ref : szS e.ref
  who : szS e.who
  lines : ∀ l ∈ e.lines, l.sz
structure Cs.rd (R : HP) (x : Cs) : Prop where
  xr : RdS R x.xa (x.xs.flatMap Ac.c)
  xe : ∀ a ∈ x.xs, a.rd R ∧ a.sz
  xl : x.xs.length ≤ 140737488355328
  lr : RdS R x.la (x.l.flatMap En.c)
  le : ∀ e ∈ x.l, e.rd R ∧ e.lines.length ≤ 140737488355328
  ls : ∀ e ∈ x.l, e.sz
  ll : x.l.length ≤ 140737488355328
  iy : i64 x.year
  ib : i64 x.book
  zw : szS x.ent ∧ szS x.to ∧ szS x.who
structure Cs.few (x : Cs) : Prop where
  xs : x.xs.length ≤ 60
  l : x.l.length ≤ 40
  tot : totL x.l ≤ 400
theorem tot_take {l : List En} {i : Nat} {e : En} (h : l[i]? = some e) : totL (l.take (i + 1)) = totL (l.take i) + e.lines.length := by
  rw [take_step h, tot_app, tot_cons]; rfl
theorem tot_all {l : List En} {i : Nat} (h : l.length ≤ i) : totL (l.take i) = totL l := by rw [List.take_of_length_le h]
section
variable {T U : TypeId} {b1 b2 b3 b4 : Nat} {R : HP}
abbrev lineX (c : ByteArray) (n : Int) : List Value := ([lnX s10 n, lnX c (-n)] : List Ln).flatMap Ln.c
abbrev bpt (b : Nat) : Option Addr := some ⟨b, 0, none⟩
abbrev lXb (b1 b2 b3 : Nat) : List En := lX (bpt b1) 2 (bpt b2) 2 (bpt b3) 2
abbrev livR (T U : TypeId) (b1 b2 b3 b4 : Nat) (R : HP) : HP := stars [pt b4 (blk ((lXb b1 b2 b3).flatMap En.c) T), pt b3 (blk (lineX s40 100) U), pt b2 (blk (lineX s50 (-4)) U), pt b1 (blk (lineX s40 9) U), R]
theorem liv_0 (h : Rd R ⟨0, 0, none⟩ lensC) : Rd (livR T U b1 b2 b3 b4 R) ⟨0, 0, none⟩ lensC := (RdS.inr (RdS.inr (RdS.inr (RdS.inr (RdS.inl (Rd.rds h)))))).rd (by simp [lensC, lensL])
theorem liv_m {m0 : Int} (h : Rd R ⟨1, 0, none⟩ [I m0]) : Rd (livR T U b1 b2 b3 b4 R) ⟨1, 0, none⟩ [I m0] := (RdS.inr (RdS.inr (RdS.inr (RdS.inr (RdS.inl (Rd.rds h)))))).rd (by simp)
theorem liv_l : RdS (livR T U b1 b2 b3 b4 R) (bpt b4) ((lXb b1 b2 b3).flatMap En.c) := RdS.inl (Rd.rds Rd.whole)
theorem liv_ln {c : ByteArray} {n : Int} {Q : HP} {a : Option Addr} (hc : (c.size : Int) ≤ 100) (hn : -1000000 ≤ n ∧ n ≤ 1000000) : ∀ y ∈ ([lnX s10 n, lnX c (-n)] : List Ln), y.rd Q := fun y hy => by
  have h3 : (sEUR.size : Int) = 3 := rfl
  simp only [List.mem_cons, List.not_mem_nil, or_false] at hy
  rcases hy with rfl | rfl
  · exact ⟨RdS.nil, by show (sEUR.size : Int) ≤ _; omega, by unfold i64; show -9223372036854775808 ≤ n ∧ n ≤ 9223372036854775807; exact ⟨by omega, by omega⟩, by unfold i64; show -9223372036854775808 ≤ n ∧ n ≤ 9223372036854775807; exact ⟨by omega, by omega⟩⟩
  · exact ⟨RdS.nil, by show (sEUR.size : Int) ≤ _; omega, by unfold i64; show -9223372036854775808 ≤ -n ∧ -n ≤ 9223372036854775807; exact ⟨by omega, by omega⟩, by unfold i64; show -9223372036854775808 ≤ -n ∧ -n ≤ 9223372036854775807; exact ⟨by omega, by omega⟩⟩
theorem liv_e : ∀ e ∈ lXb b1 b2 b3, e.rd (livR T U b1 b2 b3 b4 R) := fun e he => by
  simp only [List.mem_cons, List.not_mem_nil, or_false] at he
  rcases he with rfl | rfl | rfl
  · exact ⟨RdS.inr (RdS.inr (RdS.inr (RdS.inl (Rd.rds Rd.whole)))), liv_ln (a := none) (by decide) (by decide)⟩
  · exact ⟨RdS.inr (RdS.inr (RdS.inl (Rd.rds Rd.whole))), liv_ln (a := none) (by decide) (by decide)⟩
  · exact ⟨RdS.inr (RdS.inl (Rd.rds Rd.whole)), liv_ln (a := none) (by decide) (by decide)⟩
theorem liv_x {Q : HP} : ∀ a ∈ xsX, a.rd Q := fun a ha => by
  simp only [List.mem_cons, List.not_mem_nil, or_false] at ha
  rcases ha with rfl | rfl | rfl | rfl <;> exact ⟨RdS.nil, by decide, by decide⟩
end
end Go.SL

namespace Go.SL
open Go
section
variable {P : Program} {f : FuncId} {args : Array Value} {γ : Type} {ψ : γ → Prop} {R' : γ → Value} {Cs : γ → List HP} {L : List HP}
theorem AC.addF {v : Value} (hc : AC P f args (stars []) (Ret v [])) (z : γ) (hz : ψ z) (hv : v = R' z) (hi : Imp L (Cs z)) : AC P f args (stars L) (Outs ψ R' Cs) := fun w hp hA hs => by
  have hS : Sat ⟨w, hp⟩ L w := Has.self hA hs
  refine (hc.frame (F := stars L) (Has.mono hS fun h hh => ⟨fun _ => none, h, fun b => .inl rfl, by funext b; simp [Hp.add], fun _ => rfl, hh⟩)).mono ?_
  rintro e w' ⟨r, rfl, ⟨hq, ⟨q1, q2, qd, rfl, ⟨hr, hB⟩, hF⟩, hsub, hown⟩, hrest⟩
  have hS2 : Sat _ L w' := ⟨⟨_, (by rw [Hp.add_none hB]; exact hF), hsub, hown⟩, hrest⟩
  exact ⟨r, rfl, (hi _ _ hS2).mono fun _ h => ⟨z, ⟨hz, hr.trans hv⟩, h⟩⟩
theorem AC.pre {A A' : HP} {Q : Value → HP} (h : AC P f args A Q) (ha : ∀ h, A' h → A h) : AC P f args A' Q := AC.mono h ha fun _ _ => id
theorem Imp.pack0 {As Rs : List HP} : Imp (As ++ Rs) (stars As :: Rs) := fun β w hs => Has.mono hs fun _ h => stars_un h
theorem Imp.pack1 {A : HP} {As Rs : List HP} : Imp (A :: (As ++ Rs)) (A :: stars As :: Rs) := fun β w hs => Has.mono hs fun _ h => star_mono (fun _ => id) (fun _ => stars_un) h
theorem Imp.pack2 {A B : HP} {As Rs : List HP} : Imp (A :: B :: (As ++ Rs)) (A :: B :: stars As :: Rs) := fun β w hs => Has.mono hs fun _ h => star_mono (fun _ => id) (fun _ h => star_mono (fun _ => id) (fun _ => stars_un) h) h
end
theorem Imp.bigNil' {α : Type} (f : α → HP) {L : List HP} : Imp L (big f [] :: L) := fun β w hs => Has.mono hs emp_big
def chH (C S : TypeId) : Option Chv → HP
  | none => emp
  | some y => stars [pt y.b (blk [.map (some y.bm), y.v, y.w] C), amap y.bm acF acG y.m, big (ndH S) y.m]
def chV (o : Option Chv) : Value := .pointer (o.map fun y => ⟨y.b, 0, none⟩)
def ChOk (o : Option Chv) (xs : List Ac) : Prop := (∀ c, o = some c → c.m.map Ac.st = xs.map Ac.st) ∧ (o.isSome = true → chartB xs = true)
def resX (o : Option Chv) (xs : List Ac) (first : Int) (l : List En) (ent : ByteArray) (year book : Int) : List Cl × Int := if o.isSome = true then resM xs first l ent year book else ([], 1)
def entX (o : Option Chv) (xs : List Ac) (first : Int) (l : List En) (ent : ByteArray) (year book : Int) (to who : ByteArray) : En × Int := if o.isSome = true then entM xs first l ent year book to who else (en0, 1)
theorem resX_some {o : Option Chv} (h : o.isSome = true) (xs : List Ac) (first : Int) (l : List En) (ent : ByteArray) (year book : Int) : resX o xs first l ent year book = resM xs first l ent year book := if_pos h
theorem entX_some {o : Option Chv} (h : o.isSome = true) (xs : List Ac) (first : Int) (l : List En) (ent : ByteArray) (year book : Int) (to who : ByteArray) : entX o xs first l ent year book to who = entM xs first l ent year book to who := if_pos h
theorem ChOk.need {y : Chv} {xs : List Ac} (h : ChOk (some y) xs) : ∀ a ∈ y.m, a.need.length ≤ 6 := chart_need (h.1 y rfl) (h.2 rfl)
section
variable {P : Program} {β : Base} {n : Nat} {arr : Array Oper} {os : List Oper} {E : Env} {L L' : List HP} {K : Env → List HP → Prop}
theorem RunL.chNone (C S : TypeId) (h : RunL P β n arr os E (chH C S none :: L) K) : RunL P β n arr os E L K :=
  RunL.mapL (L' := chH C S none :: L) (fun w hs => Has.mono hs fun h hh => ⟨fun _ => none, h, fun b => .inl rfl, by funext b; simp [Hp.add], fun _ => rfl, hh⟩) h
end
abbrev resL : List Cl := [⟨⟨sa, s40, sEUR, bs0, bs0⟩, -9, -9⟩, ⟨⟨sa, s50, sEUR, bs0, bs0⟩, 4, 4⟩]
theorem liv_lines {y : En} {o : Option Chv} (ho : o.isSome = true) {b1 b2 b3 : Nat} (h : y.e = (entX o xsX 1 (lXb b1 b2 b3) sa 2025 46100 s30 su).1) :
    y.value = 46020 ∧ y.kind = 4 ∧ ∃ a1 c1 a2 c2 a3 c3, y.lines = [⟨s40, sEUR, 9, 9, bs0, bs0, a1, c1, []⟩, ⟨s50, sEUR, -4, -4, bs0, bs0, a2, c2, []⟩, ⟨s30, sEUR, -5, -5, bs0, bs0, a3, c3, []⟩] := by
  rw [entX_some ho, liv_ent] at h
  obtain ⟨no, ent, book, value, kind, ref, who, rev, la, lc, lines⟩ := y
  simp only [En.e, En.mk.injEq] at h
  obtain ⟨-, -, -, hv, hk, -, -, -, -, -, hl⟩ := h
  refine ⟨hv, hk, ?_⟩
  match lines, hl with
  | [⟨_, _, _, _, _, _, a1, c1, _⟩, ⟨_, _, _, _, _, _, a2, c2, _⟩, ⟨_, _, _, _, _, _, a3, c3, _⟩], hl =>
    simp only [List.map_cons, List.map_nil, Ln.e, List.cons.injEq, Ln.mk.injEq, and_true, true_and] at hl
    obtain ⟨⟨rfl, rfl, rfl, rfl, rfl, rfl, rfl⟩, ⟨rfl, rfl, rfl, rfl, rfl, rfl, rfl⟩, ⟨rfl, rfl, rfl, rfl, rfl, rfl, rfl⟩⟩ := hl
    exact ⟨a1, c1, a2, c2, a3, c3, rfl⟩
end Go.SL

namespace Go.SL
open Go
section
variable {P : Program}
theorem run_equalIn_struct {d : Nat} {t : TypeId} {ks : List Bk} {fs : Array Field} {xs ys : List Value} {r : Bool} (w : World) (hu : P.underlying t = some (.struct fs)) (hall : fs.toList.zipIdx.all (fun (f, i) => f.name != "_" && f.offset == i) = true) (hst : P.stoodInHeld t = false)
    (hm : fs.toList.mapM (fun f => (P.underlying f.type).bind Bk.of) = some ks) (he : eqCells ks xs ys = some r) : (Op.equalIn (d + 2) t (.agg ⟨xs⟩) (.agg ⟨ys⟩)).run P w = .ok r w := by
  obtain ⟨o, ho, hb⟩ := run_eq_fields (P := P) (d := d) (xs := ⟨xs⟩) (ys := ⟨ys⟩) w fs.toList 0 ks r hall hm (by simpa using he)
  unfold Op.equalIn
  simp only [Sem.run_bind, run_underlying hu, Result.andThen_ok, run_program, hst]
  rw [← Array.forIn_toList]
  simp only [Bool.false_eq_true, if_false, Sem.run_bind, ho, Result.andThen_ok]
  rcases o with ⟨_ | b, u⟩
  · simp only at hb; subst hb; rfl
  · simp only at hb; subst hb; rfl
def EqF (P : Program) (d : Nat) (w : World) (xs : Array Value) (f : Field) : Prop := f.name ≠ "_" ∧ ∃ v, (part f.type xs f.offset).run P w = .ok v w ∧ (Op.equalIn d f.type v v).run P w = .ok true w
theorem run_eqF {d : Nat} {xs : Array Value} (w : World) : ∀ (fs : List Field), (∀ f ∈ fs, EqF P d w xs f) →
    (forIn fs ((none, ()) : Option Bool × Unit) fun f _ => (do
      if f.name ≠ "_" then
        if !(← Op.equalIn d f.type (← part f.type xs f.offset) (← part f.type xs f.offset)) then pure (ForInStep.done (some false, ())) else pure (ForInStep.yield (none, ()))
      else pure (ForInStep.yield (none, ())) : Sem (ForInStep (Option Bool × Unit)))).run P w = .ok (none, ()) w
  | [], _ => rfl
  | f :: fs, h => by
    obtain ⟨hn, v, h1, h2⟩ := h f (by simp)
    have ih := run_eqF (d := d) (xs := xs) w fs fun g hg => h g (by simp [hg])
    rw [List.forIn_cons]
    simp only [Sem.run_bind, hn, ne_eq, not_false_eq_true, if_true, h1, h2, Result.andThen_ok, Bool.not_true, Bool.false_eq_true, if_false, Sem.run_pure]
    exact ih
theorem run_equal_self {t : TypeId} {fs : Array Field} {xs : List Value} (w : World) (hu : P.underlying t = some (.struct fs)) (hst : P.stoodInHeld t = false) (h : ∀ f ∈ fs.toList, EqF P 9999 w ⟨xs⟩ f) : (Op.equal t (.agg ⟨xs⟩) (.agg ⟨xs⟩)).run P w = .ok true w := by
  have ho := run_eqF (P := P) (d := 9999) (xs := ⟨xs⟩) w fs.toList h
  unfold Op.equal Op.maxDepth
  unfold Op.equalIn
  simp only [Sem.run_bind, run_underlying hu, Result.andThen_ok, run_program, hst]
  rw [← Array.forIn_toList]
  simp only [Bool.false_eq_true, if_false, Sem.run_bind, ho, Result.andThen_ok]
  rfl
theorem run_part_agg {t : TypeId} {cs : Array Value} {off n : Nat} {fs : Array Field} (w : World) (hu : P.underlying t = some (.struct fs)) (hs : (P.info? t).map (·.size) = some n) : (part t cs off).run P w = .ok (.agg (cs.extract off (off + n))) w := by
  have hsz : (sizeOf t).run P w = .ok n w := by
    cases hi : P.info? t with
    | none => simp [hi] at hs
    | some i => simp only [hi, Option.map_some, Option.some.injEq] at hs; simp [sizeOf, typeInfo, hi, hs]
  unfold part isAgg
  simp only [Sem.run_bind, run_underlying hu, Result.andThen_ok, Sem.run_pure, if_true, hsz]
end
class CEq (P : Program) (t : TypeId) : Prop where
  run : ∀ (w : World) (x : Cl), (Op.equal t (.agg ⟨x.c⟩) (.agg ⟨x.c⟩)).run P w = .ok true w
  guard : P.eqGuardType P.depth t = false
theorem CEq.of {P : Program} {t k i : TypeId} {ks : Array Field} {f0 f1 f2 : Field} (hu : P.underlying t = some (.struct #[f0, f1, f2])) (hst : P.stoodInHeld t = false) (hg : P.eqGuardType P.depth t = false)
    (h0 : f0.name ≠ "_" ∧ f0.type = k ∧ f0.offset = 0) (h1 : f1.name ≠ "_" ∧ f1.type = i ∧ f1.offset = 5) (h2 : f2.name ≠ "_" ∧ f2.type = i ∧ f2.offset = 6)
    (hk : P.underlying k = some (.struct ks)) (hs : (P.info? k).map (·.size) = some 5) (hall : ks.toList.zipIdx.all (fun (f, i) => f.name != "_" && f.offset == i) = true) (hst2 : P.stoodInHeld k = false) (hm : ks.toList.mapM (fun f => (P.underlying f.type).bind Bk.of) = some [.str, .str, .str, .str, .str])
    (hi : (P.underlying i).bind Bk.of = some .int) : CEq P t := by
  refine ⟨fun w x => run_equal_self w hu hst fun f hf => ?_, hg⟩
  simp only [List.mem_cons, List.not_mem_nil, or_false] at hf
  rcases hf with rfl | rfl | rfl
  · obtain ⟨hn, ht, ho⟩ := h0
    refine ⟨hn, .agg ⟨x.k.c⟩, ?_, ?_⟩
    · rw [ht, ho, run_part_agg w hk hs]; rfl
    · rw [ht]; exact run_equalIn_struct (d := 9997) w hk hall hst2 hm (by simp [Ky.c, eqCells, eqCell])
  · obtain ⟨hn, ht, ho⟩ := h1
    refine ⟨hn, I x.amt, ?_, ?_⟩
    · rw [ht, ho]; exact run_part_one w hi rfl
    · rw [ht]; exact run_equalIn_cell (d := 9998) w hi (by simp [eqCell])
  · obtain ⟨hn, ht, ho⟩ := h2
    refine ⟨hn, I x.base, ?_, ?_⟩
    · rw [ht, ho]; exact run_part_one w hi rfl
    · rw [ht]; exact run_equalIn_cell (d := 9998) w hi (by simp [eqCell])
section
variable {P : Program} {β : Base} {E : Env} {L L' M : List HP} {K : Value → List HP → Prop} {d : Option Tmp} {ty : TypeId} {pos : String} {af : Array Edge} {g : Option (Nat × Bool)} {x y : Operand} {t t' : TypeId}
end
end Go.SL

namespace Go.SL
open Go
section
variable {xs : List Ac} {first : Int} {l : List En} {ent : ByteArray} {year book : Int} {to who : ByteArray} {s all : List Cl} {a : Ac} {ls : List Ln}
end
end Go.SL

namespace Go.SL
open Go
section
variable {P : Program} {β : Base} {E : Env} {L L' M : List HP} {K : Value → List HP → Prop} {d : Option Tmp} {ty : TypeId} {pos : String} {af : Array Edge} {g : Option (Nat × Bool)} {x y : Operand} {t tn e : TypeId}
end
end Go.SL

namespace Go.SL
open Go
def mlen (i : Nat) : Int := lenM (leapB (1900 + (i : Int) / 12)) ((i : Int) % 12 + 1)
def sumM : Nat → Int
  | 0 => 0
  | i + 1 => sumM i + mlen i
theorem sumM_eq : ∀ {i : Nat}, i ≤ 3599 → sumM i = beforeF (1900 + (i : Int) / 12) + cumM (leapB (1900 + (i : Int) / 12)) ((i : Int) % 12 + 1)
  | 0, _ => by simp only [sumM]; have := before_1900; have := @cum_first (leapB 1900); simp at *; omega
  | i + 1, h => by
    have ih := sumM_eq (i := i) (by omega)
    simp only [sumM, mlen]
    rw [ih]
    by_cases e : (i : Int) % 12 = 11
    · rw [show ((i + 1 : Nat) : Int) / 12 = (i : Int) / 12 + 1 by omega, show ((i + 1 : Nat) : Int) % 12 + 1 = 1 by omega, cum_first, e, show (11 : Int) + 1 = 12 from rfl]
      have h1 := @cum_last (leapB (1900 + (i : Int) / 12))
      have h2 := before_step (y := 1900 + (i : Int) / 12) (by omega) (by omega)
      rw [show (1900 : Int) + ((i : Int) / 12 + 1) = 1900 + (i : Int) / 12 + 1 by omega]; omega
    · rw [show ((i + 1 : Nat) : Int) / 12 = (i : Int) / 12 by omega, show ((i + 1 : Nat) : Int) % 12 + 1 = (i : Int) % 12 + 1 + 1 by omega]
      have h1 := cum_step (l := leapB (1900 + (i : Int) / 12)) (m := (i : Int) % 12 + 1) (by omega) (by omega)
      omega
theorem sumM_day {y m d : Int} (h : ofB y m d = true) : sumM ((y - 1900) * 12 + m - 1).toNat + d - 1 = dayF y m d := by
  have hm := ofB_month h
  unfold ofB at h; simp only [decide_eq_true_eq] at h
  rw [sumM_eq (by omega)]
  have e : (((y - 1900) * 12 + m - 1).toNat : Int) = (y - 1900) * 12 + (m - 1) := by omega
  rw [e, show 1900 + ((y - 1900) * 12 + (m - 1)) / 12 = y by omega, show ((y - 1900) * 12 + (m - 1)) % 12 + 1 = m by omega]
  unfold dayF; omega
theorem sumM_range {i : Nat} (h : i ≤ 3599) : 0 ≤ sumM i ∧ sumM i ≤ 109572 := by
  have h1 : ofB (1900 + (i : Int) / 12) ((i : Int) % 12 + 1) 1 = true := by
    unfold ofB; simp only [decide_eq_true_eq]
    have := lenM_low (l := leapB (1900 + (i : Int) / 12)) (m := (i : Int) % 12 + 1) (by omega) (by omega)
    omega
  have h2 := day_range h1
  have h3 := sumM_eq h
  unfold dayF at h2; omega
end Go.SL

namespace Go.SL
open Go
def hiS (xs : List Int) : Int := (xs.map fun x => x / 4294967296).sum
def loS (xs : List Int) : Int := (xs.map fun x => x % 4294967296).sum
theorem hiS_step {xs : List Int} {i : Nat} {x : Int} (h : xs[i]? = some x) : hiS (xs.take (i + 1)) = hiS (xs.take i) + x / 4294967296 := by
  rw [take_step h]; unfold hiS; rw [List.map_append, List.sum_append_int]; simp
theorem loS_step {xs : List Int} {i : Nat} {x : Int} (h : xs[i]? = some x) : loS (xs.take (i + 1)) = loS (xs.take i) + x % 4294967296 := by
  rw [take_step h]; unfold loS; rw [List.map_append, List.sum_append_int]; simp
theorem half_sum : ∀ xs : List Int, hiS xs * 4294967296 + loS xs = xs.sum
  | [] => rfl
  | x :: xs => by
    have ih := half_sum xs
    unfold hiS loS at ih ⊢
    simp only [List.map_cons, List.sum_cons] at ih ⊢
    omega
theorem half_bound : ∀ {xs : List Int}, (∀ x ∈ xs, i64 x) → (-2147483648 * (xs.length : Int) ≤ hiS xs ∧ hiS xs ≤ 2147483648 * (xs.length : Int)) ∧ (0 ≤ loS xs ∧ loS xs ≤ 4294967296 * (xs.length : Int))
  | [], _ => by simp [hiS, loS]
  | x :: xs, h => by
    have ih := half_bound (xs := xs) fun y hy => h y (by simp [hy])
    have hx := h x (by simp)
    unfold i64 at hx
    unfold hiS loS at ih ⊢
    simp only [List.map_cons, List.sum_cons, List.length_cons] at ih ⊢
    push_cast
    omega
theorem half_take {xs : List Int} (h : ∀ x ∈ xs, i64 x) (hl : xs.length ≤ 1000000) (i : Nat) : (-2147483648000000 ≤ hiS (xs.take i) ∧ hiS (xs.take i) ≤ 2147483648000000) ∧ (0 ≤ loS (xs.take i) ∧ loS (xs.take i) ≤ 4294967296000000) := by
  have hb := half_bound (xs := xs.take i) fun x hx => h x (List.mem_of_mem_take hx)
  have hlen : (xs.take i).length ≤ xs.length := by rw [List.length_take]; omega
  omega
theorem and32 {x : Int} (h : i64 x) : IntKind.i64.wrap (BitVec.ofInt IntKind.i64.bits x &&& BitVec.ofInt IntKind.i64.bits 4294967295).toNat = x % 4294967296 := by
  have h1 : (BitVec.ofInt IntKind.i64.bits x &&& BitVec.ofInt IntKind.i64.bits 4294967295).toNat = (x % 18446744073709551616).toNat % 4294967296 := by
    show (BitVec.ofInt 64 x &&& BitVec.ofInt 64 4294967295).toNat = _
    rw [BitVec.toNat_and, BitVec.toNat_ofInt, BitVec.toNat_ofInt]
    rw [show (4294967295 % ((2 ^ 64 : Nat) : Int)).toNat = 2 ^ 32 - 1 by decide, Nat.and_two_pow_sub_one_eq_mod]
    rfl
  rw [h1, wrap_i64_in (by omega)]
  omega
theorem shr32 (x : Int) : x.fdiv (2 ^ (min (32 : Int).toNat IntKind.i64.bits)) = x / 4294967296 := by
  show x.fdiv (2 ^ 32) = _
  rw [Int.fdiv_eq_ediv_of_nonneg _ (by decide)]; rfl
theorem shl32i {x : Int} (h : -2147483648 ≤ x ∧ x ≤ 2147483647) : IntKind.i64.wrap (x * 2 ^ (min (32 : Int).toNat IntKind.i64.bits)) = x * 4294967296 := by
  show IntKind.i64.wrap (x * 2 ^ 32) = _
  rw [show (2 : Int) ^ 32 = 4294967296 from rfl]
  exact wrap_i64_in ⟨by omega, by omega⟩
theorem half_fit {xs : List Int} (h : i64 xs.sum) : -2147483648 ≤ hiS xs + loS xs / 4294967296 ∧ hiS xs + loS xs / 4294967296 ≤ 2147483647 := by
  have := half_sum xs; unfold i64 at h; omega
theorem half_all (xs : List Int) : (hiS xs + loS xs / 4294967296) * 4294967296 + loS xs % 4294967296 = xs.sum := by
  have := half_sum xs; omega
def inY (year : Int) : Bool := decide (1900 ≤ year ∧ year ≤ 2199)
def monB (first year k : Int) : Bool := inY year && fisB first year k
theorem fis_len2 {y m : Int} (h : 1 ≤ m ∧ m ≤ 12) : ofB y m (lenM (leapB y) m) = ofB y m 1 := by
  have hl := lenM_low (l := leapB y) h.1 h.2
  unfold ofB
  exact decide_eq_decide.2 ⟨fun h => ⟨h.1, h.2.1, by omega, by omega⟩, fun h => ⟨h.1, h.2.1, by omega, by omega⟩⟩
theorem mon_year {first year : Int} (hf : 1 ≤ first ∧ first ≤ 12) : (monB first year 0 && monB first year 11) = yearB first year := by
  unfold monB inY
  by_cases hy : 1900 ≤ year ∧ year ≤ 2199
  · rw [decide_eq_true hy, fisB_iff hf (k := 0) (by omega) hy, fisB_iff hf (k := 11) (by omega) hy]
    have e0 : fisY first year 0 = year := by unfold fisY; omega
    rw [e0, decide_eq_true hy.2]
    unfold yearB
    simp only [Bool.true_and]
    exact decide_eq_decide.2 ⟨fun h => ⟨hy.1, hy.2, h⟩, fun h => h.2.2⟩
  · rw [decide_eq_false hy]
    have : yearB first year = false := by unfold yearB; exact decide_eq_false (fun h => hy ⟨h.1, h.2.1⟩)
    rw [this]; rfl
theorem fis_wrap {first year k : Int} (hf : 1 ≤ first ∧ first ≤ 12) (hk : 0 ≤ k ∧ k ≤ 11) : (12 ≤ first - 1 + k → fisM first k = first - 1 + k - 12 + 1 ∧ fisY first year k = year + 1) ∧ (¬ 12 ≤ first - 1 + k → fisM first k = first - 1 + k + 1 ∧ fisY first year k = year) := by
  unfold fisM fisY; constructor <;> intro h <;> constructor <;> omega
theorem lensL_get {m : Int} (h1 : 1 ≤ m) (h2 : m ≤ 12) : lensL[(m - 1).toNat]? = some (lensL.getD (m - 1).toNat 0) := by
  have : (m - 1).toNat < lensL.length := by show _ < 12; omega
  rw [List.getD_eq_getElem?_getD, List.getElem?_eq_getElem this]; rfl
end Go.SL

namespace Go.SL
open Go
theorem insK_at {key : Ky} : ∀ {ks : List Ky} {k : Nat}, ks.Pairwise ltK → k ≤ ks.length → (∀ j y, k ≤ j → ks[j]? = some y → ltK key y) → (∀ y, 0 < k → ks[k - 1]? = some y → ¬ ltK key y) →
    insK key ks = if 0 < k ∧ ks[k - 1]? = some key then ks else ks.take k ++ key :: ks.drop k
  | [], k, _, hk, _, _ => by
    obtain rfl : k = 0 := by simpa using hk
    rfl
  | x :: xs, 0, _, _, h, _ => by
    have hx : cmpK key x < 0 := h 0 x (Nat.le_refl _) rfl
    simp only [insK]
    rw [if_pos hx, if_neg (fun h => absurd h.1 (by omega))]; rfl
  | x :: xs, k + 1, hp, hk, h, hl => by
    rw [List.pairwise_cons] at hp
    have hxk : ¬ ltK key x := by
      cases k with
      | zero => exact hl x (by omega) rfl
      | succ k =>
        obtain ⟨y, hy⟩ : ∃ y, xs[k]? = some y := ⟨_, List.getElem?_eq_getElem (show k < xs.length by simp at hk; omega)⟩
        have h1 := hl y (by omega) (by simpa using hy)
        have h2 := hp.1 y (List.mem_of_getElem? hy)
        exact fun h3 => h1 (ltK_trans h3 h2)
    simp only [insK]
    rw [if_neg (show ¬ cmpK key x < 0 from hxk)]
    by_cases e : key = x
    · subst e
      rw [if_pos rfl]
      have hk0 : k = 0 := by
        cases k with
        | zero => rfl
        | succ k =>
          obtain ⟨y, hy⟩ : ∃ y, xs[k]? = some y := ⟨_, List.getElem?_eq_getElem (show k < xs.length by simp at hk; omega)⟩
          exact absurd (hp.1 y (List.mem_of_getElem? hy)) (hl y (by omega) (by simpa using hy))
      subst hk0
      rw [if_pos ⟨by omega, rfl⟩]
    · rw [if_neg e]
      have ih := insK_at (key := key) (ks := xs) (k := k) hp.2 (by simpa using hk) (fun j y hj hy => h (j + 1) y (by omega) (by simpa using hy)) (fun y hk0 hy => hl y (by omega) (by
        obtain ⟨k', rfl⟩ : ∃ k', k = k' + 1 := ⟨k - 1, by omega⟩
        simpa using hy))
      rw [ih]
      cases k with
      | zero =>
        rw [if_neg (fun h => absurd h.1 (by omega)), if_neg (fun h => e (by have h2 := h.2; simp at h2; exact h2.symm))]; rfl
      | succ k =>
        by_cases hq : xs[k]? = some key
        · rw [if_pos ⟨by omega, hq⟩, if_pos ⟨by omega, by simpa using hq⟩]
        · rw [if_neg (fun h => hq h.2), if_neg (fun h => hq (by simpa using h.2))]; rfl
def keysT (l : List Cl) (i : Nat) : List Ky := keysL (l.take i)
theorem keysT_step {l : List Cl} {i : Nat} {x : Cl} (h : l[i]? = some x) : keysT l (i + 1) = insK x.k (keysT l i) := by
  unfold keysT keysL; rw [take_step h, List.foldl_append]; rfl
theorem keysT_pair (l : List Cl) (i : Nat) : (keysT l i).Pairwise ltK := keysL_pair _
theorem keysT_len {l : List Cl} {i : Nat} : (keysT l i).length ≤ i := by
  have := keys_fold_len (l := l.take i) (ks := [])
  unfold keysT keysL
  rw [List.length_take] at this
  simp at this; omega
theorem keysT_all {l : List Cl} {i : Nat} (h : l.length ≤ i) : keysT l i = keysL l := by unfold keysT; rw [List.take_of_length_le h]
def gapK (ks : List Ky) (j : Nat) (g : Ky) : List Ky := ks.take j ++ g :: ks.drop j
theorem gap_end (ks : List Ky) (g : Ky) : ks ++ [g] = gapK ks ks.length g := by unfold gapK; simp
theorem gap_len {ks : List Ky} {j : Nat} {g : Ky} : (gapK ks j g).length = ks.length + 1 := by
  unfold gapK; rw [List.length_append, List.length_cons, List.length_take, List.length_drop]; omega
theorem gap_get {ks : List Ky} {j : Nat} {g y : Ky} (h : ks[j]? = some y) : (gapK ks (j + 1) g)[j]? = some y := by
  unfold gapK
  have hj := (List.getElem?_eq_some_iff.1 h).1
  rw [List.getElem?_append_left (by rw [List.length_take]; omega), List.getElem?_take, if_pos (by omega)]
  exact h
theorem gap_step {ks : List Ky} {j : Nat} {g y : Ky} (h : ks[j]? = some y) : (gapK ks (j + 1) g).set (j + 1) y = gapK ks j y := by
  unfold gapK
  obtain ⟨hj, rfl⟩ := List.getElem?_eq_some_iff.1 h
  rw [List.set_append_right _ _ (by rw [List.length_take]; omega)]
  rw [show j + 1 - (ks.take (j + 1)).length = 0 by rw [List.length_take]; omega, List.set_cons_zero, List.take_succ_eq_append_getElem hj, List.append_assoc]
  rw [List.drop_eq_getElem_cons hj]; rfl
theorem gap_set {ks : List Ky} {j : Nat} {g k : Ky} (h : j ≤ ks.length) : (gapK ks j g).set j k = gapK ks j k := by
  unfold gapK
  rw [List.set_append_right _ _ (by rw [List.length_take]; omega), show j - (ks.take j).length = 0 by rw [List.length_take]; omega, List.set_cons_zero]
theorem size_bs0 {s : ByteArray} : s = bs0 ↔ s.size = 0 := by
  constructor
  · rintro rfl; rfl
  · intro h
    obtain ⟨⟨l⟩⟩ := s
    have hl : l.length = 0 := h
    rw [List.eq_nil_of_length_eq_zero hl]
theorem code_eq {s : ByteArray} : codeB s = (decide (1 ≤ (s.size : Int)) && decide ((s.size : Int) ≤ 12) && everyB s) := by
  have h := size_bs0 (s := s)
  unfold codeB
  congr 2
  by_cases e : s.size = 0
  · have e2 : s = ⟨#[]⟩ := h.2 e
    rw [decide_eq_false (fun hh => hh e2), decide_eq_false (by omega)]
  · have e2 : ¬ s = ⟨#[]⟩ := fun hh => e (h.1 hh)
    rw [decide_eq_true e2, decide_eq_true (by omega)]
theorem cmpL_skip {a b : List ByteArray} {i : Nat} {x y : ByteArray} (h : cmpL a b = cmpL (a.drop i) (b.drop i)) (hx : a[i]? = some x) (hy : b[i]? = some y) : cmpL a b = if cmpS x y = 0 then cmpL (a.drop (i + 1)) (b.drop (i + 1)) else cmpS x y := by
  rw [h, drop_at hx, drop_at hy, cmpL]
theorem cmpL_done {a b : List ByteArray} {i : Nat} (h : cmpL a b = cmpL (a.drop i) (b.drop i)) (hi : a.length ≤ i) : cmpL a b = 0 := by
  rw [h, List.drop_eq_nil_of_le hi]; simp [cmpL]
theorem cmp_lt {a b : ByteArray} (h : blt a b = true) : cmpS a b = -1 := by
  unfold cmpS
  rw [if_neg (fun e => by subst e; rw [blt_irrefl] at h; cases h), if_pos h]
theorem cmp_gt {a b : ByteArray} (h : blt b a = true) : cmpS a b = 1 := by
  unfold cmpS
  rw [if_neg (fun e => by subst e; rw [blt_irrefl] at h; cases h), if_neg (by rw [blt_asymm h]; simp)]
theorem cmp_zero {a b : ByteArray} (h1 : blt a b = false) (h2 : blt b a = false) : cmpS a b = 0 := by
  unfold cmpS
  by_cases e : a = b
  · rw [if_pos e]
  · rcases blt_total e with h | h
    · rw [h] at h1; cases h1
    · rw [h] at h2; cases h2
theorem insS_at {c : ByteArray} : ∀ {cs : List ByteArray} {k : Nat}, k ≤ cs.length → (∀ j y, j < k → cs[j]? = some y → blt y c = true) → (∀ y, cs[k]? = some y → blt y c = false) →
    insS c cs = if cs[k]? = some c then cs else cs.take k ++ c :: cs.drop k
  | [], k, hk, _, _ => by
    obtain rfl : k = 0 := by simpa using hk
    simp [insS]
  | x :: xs, 0, _, _, h => by
    have hx := h x rfl
    simp only [insS]
    rw [if_neg (by rw [hx]; simp)]
    by_cases e : x = c
    · subst e; simp
    · rw [if_neg e, if_neg (by simpa using e)]; rfl
  | x :: xs, k + 1, hk, hl, h => by
    have hx := hl 0 x (by omega) rfl
    simp only [insS]
    rw [if_pos hx, insS_at (c := c) (cs := xs) (k := k) (by simpa using hk) (fun j y hj hy => hl (j + 1) y (by omega) (by simpa using hy)) (fun y hy => h y (by simpa using hy))]
    by_cases hq : xs[k]? = some c
    · rw [if_pos hq, if_pos (by simpa using hq)]
    · rw [if_neg hq, if_neg (by simpa using hq)]; rfl
def curT {α : Type} (f : α → ByteArray) (ls : List α) (i : Nat) : List ByteArray := sortS ((ls.take i).map f)
theorem curT_step {α : Type} {f : α → ByteArray} {ls : List α} {i : Nat} {x : α} (h : ls[i]? = some x) : curT f ls (i + 1) = insS (f x) (curT f ls i) := by
  unfold curT sortS; rw [take_step h, List.map_append, List.foldl_append]; rfl
theorem insS_len {c : ByteArray} : ∀ {cs : List ByteArray}, (insS c cs).length ≤ cs.length + 1
  | [] => by simp [insS]
  | x :: xs => by
    have := insS_len (c := c) (cs := xs)
    simp only [insS]
    split
    · simp; omega
    · split <;> simp
theorem curT_len {α : Type} {f : α → ByteArray} {ls : List α} : ∀ {i : Nat}, i ≤ ls.length → (curT f ls i).length ≤ i
  | 0, _ => by simp [curT, sortS]
  | i + 1, h => by
    have ih := curT_len (f := f) (ls := ls) (i := i) (by omega)
    obtain ⟨x, hx⟩ : ∃ x, ls[i]? = some x := ⟨_, List.getElem?_eq_getElem (by omega)⟩
    rw [curT_step hx]
    have := insS_len (c := f x) (cs := curT f ls i)
    omega
theorem curT_all {α : Type} {f : α → ByteArray} {ls : List α} {i : Nat} (h : ls.length ≤ i) : curT f ls i = sortS (ls.map f) := by unfold curT; rw [List.take_of_length_le h]
def OfI (l : List Cl) (ks : List Ky) (i : Nat) (acc : List Cl) : Prop := ofK l ks = (ofK l (ks.drop i)).map (acc ++ ·) ∧ acc.length ≤ i
theorem OfI.start {l : List Cl} {ks : List Ky} : OfI l ks 0 [] := ⟨by simp, Nat.le_refl _⟩
theorem OfI.bad {l : List Cl} {ks : List Ky} {i : Nat} {acc : List Cl} {k : Ky} (h : OfI l ks i acc) (hk : ks[i]? = some k) (hb : ¬ (withinB (getA l k) = true ∧ withinB (getB l k) = true)) : ofK l ks = none := by
  rw [h.1, drop_at hk, ofK_cons, if_neg (show ¬ (withinB (sumA (byK k l)) = true ∧ withinB (sumB (byK k l)) = true) from hb)]; rfl
theorem OfI.step {l : List Cl} {ks : List Ky} {i : Nat} {acc : List Cl} {k : Ky} (h : OfI l ks i acc) (hk : ks[i]? = some k) (hb : withinB (getA l k) = true ∧ withinB (getB l k) = true) :
    OfI l ks (i + 1) (if getA l k = 0 ∧ getB l k = 0 then acc else acc ++ [⟨k, getA l k, getB l k⟩]) := by
  refine ⟨?_, ?_⟩
  · rw [h.1, drop_at hk, ofK_cons, if_pos (show withinB (sumA (byK k l)) = true ∧ withinB (sumB (byK k l)) = true from hb), Option.map_map]
    congr 1; funext t
    show acc ++ (if getA l k = 0 ∧ getB l k = 0 then t else ⟨k, getA l k, getB l k⟩ :: t) = _
    split <;> simp
  · have := h.2
    split
    · omega
    · rw [List.length_append, List.length_singleton]; omega
theorem OfI.done {l : List Cl} {ks : List Ky} {i : Nat} {acc : List Cl} (h : OfI l ks i acc) (hi : ks.length ≤ i) : ofK l ks = some acc := by
  rw [h.1, List.drop_eq_nil_of_le hi, ofK]; simp
theorem getA_take {l : List Cl} {i : Nat} {x : Cl} {k : Ky} (h : l[i]? = some x) : byK k (l.take (i + 1)) = byK k (l.take i) ++ (if x.k = k then [x] else []) := by
  rw [take_step h, byK_app]
  congr 1
  unfold byK
  by_cases e : x.k = k <;> simp [e]
theorem bal_cur {ls : List Ln} : balB ls = true ↔ ∀ c ∈ sortS (ls.map Ln.cur), balC ls c = true := by
  unfold balB
  rw [List.all_eq_true]
  constructor
  · intro h c hc
    rw [sortS_mem] at hc
    obtain ⟨y, hy, rfl⟩ := List.mem_map.1 hc
    exact h y hy
  · intro h y hy
    exact h y.cur (by rw [sortS_mem]; exact List.mem_map_of_mem hy)
def balT (ls : List Ln) (cs : List ByteArray) (i : Nat) : Prop := ∀ j c, j < i → cs[j]? = some c → balC ls c = true
theorem balT.all {ls : List Ln} {i : Nat} (h : balT ls (sortS (ls.map Ln.cur)) i) (hi : (sortS (ls.map Ln.cur)).length ≤ i) : balB ls = true := bal_cur.2 fun c hc => by
  obtain ⟨j, hj, rfl⟩ := List.getElem_of_mem hc
  exact h j _ (Nat.lt_of_lt_of_le hj hi) (List.getElem?_eq_getElem hj)
theorem bal_not {ls : List Ln} {i : Nat} {c : ByteArray} (h : (sortS (ls.map Ln.cur))[i]? = some c) (hb : balC ls c = false) : balB ls = false := by
  cases hh : balB ls with
  | false => rfl
  | true => have := bal_cur.1 hh c (List.mem_of_getElem? h); rw [hb] at this; cases this
theorem ofCur_take {ls : List Ln} {i : Nat} {x : Ln} {c : ByteArray} (h : ls[i]? = some x) : ofCur c (ls.take (i + 1)) = ofCur c (ls.take i) ++ (if x.cur = c then [x] else []) := by
  rw [take_step h]
  unfold ofCur
  rw [List.filter_append]
  congr 1
  by_cases e : x.cur = c <;> simp [e]
end Go.SL

namespace Go.SL
open Go
theorem leq_not (s u : ByteArray) : (Op.bytesLess s.toList u.toList || s.toList == u.toList) = !Op.bytesLess u.toList s.toList := by
  by_cases e : s = u
  · subst e
    have h : Op.bytesLess s.toList s.toList = false := blt_irrefl s
    rw [h]; simp
  · rcases blt_total e with h | h
    · have h2 : Op.bytesLess u.toList s.toList = false := blt_asymm h
      have h1 : Op.bytesLess s.toList u.toList = true := h
      rw [h1, h2]; rfl
    · have h2 : Op.bytesLess s.toList u.toList = false := blt_asymm h
      have h1 : Op.bytesLess u.toList s.toList = true := h
      rw [h1, h2]
      cases hq : (s.toList == u.toList) with
      | false => rfl
      | true =>
        rw [beq_iff_eq] at hq
        have h3 : Op.bytesLess u.toList u.toList = false := blt_irrefl u
        rw [hq, h3] at h1; cases h1
section
variable {P : Program} {β : Base} {E : Env} {L : List HP} {d : Option Tmp} {ty : TypeId} {pos : String} {af : Array Edge} {g : Option (Nat × Bool)} {x y : Operand} {t t' : TypeId}
theorem DetJ.leqS {s u : ByteArray} (hx : E.ev x = some (.string s)) (hy : E.ev y = some (.string u)) : DetJ P β E L ⟨d, .binOp .leq t x y t', ty, pos, af, g⟩ (.bool (!(Op.bytesLess u.toList s.toList))) :=
  fun a w ha _ => by
    have hl := leq_not s u
    simp [execOp, ha.ev hx, ha.ev hy, eqGuard, binOp, Op.stringOp, hl]
end
section
variable {P : Program} {β : Base} {n : Nat} {arr : Array Oper} {os : List Oper} {E : Env} {L M : List HP} {K : Env → List HP → Prop} {T : TypeId} {k m cap : Nat} {oa : Option Addr} {cs : List Value}
theorem RunL.ownLe (p : Pick L (own T k oa m cap cs) M) (h : m ≤ cap → RunL P β n arr os E L K) : RunL P β n arr os E L K := fun a w ha hs Q hQ => by
  have hs' := hs
  obtain ⟨⟨hp', hlp, _⟩, _⟩ := hs'
  obtain ⟨h1', h2', _, e, hA, _⟩ := p.star hlp
  exact h hA.2.1 a w ha hs Q hQ
end
theorem ky1 (k : Ky) : ∀ v ∈ k.c, v.oneCell' = true := fun v hv => by simp [Ky.c] at hv; rcases hv with rfl | rfl | rfl | rfl | rfl <;> rfl
theorem key_dec (a b : Ky) : (decide (a.ent = b.ent) && (decide (a.acc = b.acc) && (decide (a.cur = b.cur) && (decide (a.partner = b.partner) && (decide (a.tags = b.tags) && true))))) = decide (a = b) := by
  cases a; cases b
  simp only [Ky.mk.injEq, Bool.and_true, Bool.decide_and]
theorem amts_ok {ls : List Ln} (h : ∀ y ∈ ls, lineE y = 0) (hl : ls.length ≤ 1000) (c : ByteArray) : ((∀ v ∈ amts (ofCur c ls), i64 v) ∧ i64 (amts (ofCur c ls)).sum ∧ (amts (ofCur c ls)).length ≤ 1000000) ∧ ((∀ v ∈ bass (ofCur c ls), i64 v) ∧ i64 (bass (ofCur c ls)).sum ∧ (bass (ofCur c ls)).length ≤ 1000000) := by
  have hm : ∀ y ∈ ofCur c ls, y ∈ ls := fun y hy => (List.mem_filter.1 hy).1
  have hlen : (ofCur c ls).length ≤ ls.length := List.length_filter_le ..
  have key : ∀ {f : Ln → Int} {r : List Ln}, (∀ y ∈ r, -1000000000000 ≤ f y ∧ f y ≤ 1000000000000) → r.length ≤ 1000 → (∀ v ∈ r.map f, i64 v) ∧ (-1000000000000 * (r.length : Int) ≤ (r.map f).sum ∧ (r.map f).sum ≤ 1000000000000 * (r.length : Int)) := fun {f} {r} => by
    induction r with
    | nil => intro _ _; simp
    | cons y r ih =>
      intro h1 h2
      have i1 := ih (fun z hz => h1 z (by simp [hz])) (by simp at h2; omega)
      have hy := h1 y (by simp)
      refine ⟨fun v hv => ?_, ?_⟩
      · rcases List.mem_cons.1 hv with rfl | hv
        · unfold i64; omega
        · exact i1.1 v hv
      · simp only [List.map_cons, List.sum_cons, List.length_cons]; push_cast; omega
  have k1 := key (f := Ln.amt) (r := ofCur c ls) (fun y hy => (line_far (h y (hm y hy))).1) (by omega)
  have k2 := key (f := Ln.base) (r := ofCur c ls) (fun y hy => (line_far (h y (hm y hy))).2) (by omega)
  refine ⟨⟨k1.1, ?_, ?_⟩, ⟨k2.1, ?_, ?_⟩⟩
  · unfold i64; unfold amts; omega
  · unfold amts; rw [List.length_map]; omega
  · unfold i64; unfold bass; omega
  · unfold bass; rw [List.length_map]; omega
theorem cell_ok {l : List Cl} (h : Tiny l) (hl : l.length ≤ 100000) (k : Ky) : ((∀ v ∈ (byK k l).map Cl.amt, i64 v) ∧ i64 (getA l k) ∧ ((byK k l).map Cl.amt).length ≤ 1000000) ∧ ((∀ v ∈ (byK k l).map Cl.base, i64 v) ∧ i64 (getB l k) ∧ ((byK k l).map Cl.base).length ≤ 1000000) := by
  have hm : ∀ y ∈ byK k l, y ∈ l := fun y hy => (List.mem_filter.1 hy).1
  have hlen : (byK k l).length ≤ l.length := List.length_filter_le ..
  have hb := sum_tiny (s := byK k l) fun x hx => h x (hm x hx)
  refine ⟨⟨fun v hv => ?_, ?_, ?_⟩, ⟨fun v hv => ?_, ?_, ?_⟩⟩
  · obtain ⟨y, hy, rfl⟩ := List.mem_map.1 hv
    have := h y (hm y hy); unfold i64; omega
  · unfold i64 getA; omega
  · rw [List.length_map]; omega
  · obtain ⟨y, hy, rfl⟩ := List.mem_map.1 hv
    have := h y (hm y hy); unfold i64; omega
  · unfold i64 getB; omega
  · rw [List.length_map]; omega
end Go.SL

namespace Go.SL
open Go
theorem ba_at {l : List UInt8} {i : Nat} {u : UInt8} (h : (ba l)[i]? = some u) : l[i]? = some u := by rw [byte_get] at h; exact h
theorem cut1_at {c : UInt8} : ∀ {l : List UInt8} {i : Nat}, l[i]? = some c → (∀ (j : Nat) u, j < i → l[j]? = some u → u ≠ c) → cut1 c l = (l.take i, l.drop (i + 1), true)
  | [], i, h, _ => by simp at h
  | x :: r, 0, h, _ => by
    have e : x = c := by simpa using h
    simp only [cut1]; rw [if_pos e]; rfl
  | x :: r, i + 1, h, hn => by
    have e : ¬ x = c := hn 0 x (by omega) rfl
    have ih := cut1_at (c := c) (l := r) (i := i) (by simpa using h) (fun j u hj hu => hn (j + 1) u (by omega) (by simpa using hu))
    simp only [cut1]; rw [if_neg e, ih]; rfl
theorem cut1_not {c : UInt8} : ∀ {l : List UInt8}, (∀ (j : Nat) u, l[j]? = some u → u ≠ c) → cut1 c l = (l, [], false)
  | [], _ => rfl
  | x :: r, hn => by
    have e : ¬ x = c := hn 0 x rfl
    have ih := cut1_not (c := c) (l := r) (fun j u hu => hn (j + 1) u (by simpa using hu))
    simp only [cut1]; rw [if_neg e, ih]
theorem ba_lo (l : List UInt8) (i : Nat) : (ba l).extract 0 i = ba (l.take i) := by
  have h : ((ba l).extract 0 i).data = (ba (l.take i)).data := by
    rw [ByteArray.data_extract]
    apply Array.ext'
    rw [Array.toList_extract]
    simp [List.extract]
  exact ByteArray.ext h
theorem ba_hi (l : List UInt8) (i : Nat) : (ba l).extract i (ba l).size = ba (l.drop i) := by
  have h : ((ba l).extract i (ba l).size).data = (ba (l.drop i)).data := by
    rw [ByteArray.data_extract]
    apply Array.ext'
    rw [Array.toList_extract]
    show List.extract l i l.length = l.drop i
    unfold List.extract
    rw [List.take_of_length_le (by rw [List.length_drop]; omega)]
  exact ByteArray.ext h
theorem u8_eq {a b : UInt8} : ((a.toNat : Int) = (b.toNat : Int)) ↔ a = b :=
  ⟨fun h => UInt8.toNat_inj.1 (by omega), fun h => by rw [h]⟩
theorem byC_take {s : List Cl} {i : Nat} {x : Cl} {c : ByteArray} (h : s[i]? = some x) : byC c (s.take (i + 1)) = byC c (s.take i) ++ (if x.k.cur = c then [x] else []) := by
  rw [take_step h, byC_app]
  congr 1
  unfold byC
  by_cases e : x.k.cur = c <;> simp [e]
theorem wrA_step {s : List Cl} {i : Nat} {x : Cl} {c : ByteArray} (h : s[i]? = some x) (hc : x.k.cur = c) : wr (wr (sumA (byC c (s.take i))) + x.amt) = wr (sumA (byC c (s.take (i + 1)))) := by
  rw [byC_take h, if_pos hc, wr_add]
  congr 1
  unfold sumA
  rw [List.map_append, List.sum_append_int]; simp
theorem wrB_step {s : List Cl} {i : Nat} {x : Cl} {c : ByteArray} (h : s[i]? = some x) (hc : x.k.cur = c) : wr (wr (sumB (byC c (s.take i))) + x.base) = wr (sumB (byC c (s.take (i + 1)))) := by
  rw [byC_take h, if_pos hc, wr_add]
  congr 1
  unfold sumB
  rw [List.map_append, List.sum_append_int]; simp
theorem by_skip {s : List Cl} {i : Nat} {x : Cl} {c : ByteArray} (h : s[i]? = some x) (hc : ¬ x.k.cur = c) : byC c (s.take (i + 1)) = byC c (s.take i) := by
  rw [byC_take h, if_neg hc, List.append_nil]
def agL (p : List Cl) (to c : ByteArray) : Ln := ⟨to, c, wr (sumA (byC c p)), wr (sumB (byC c p)), bs0, bs0, none, 0, []⟩
def agB (p : List Cl) (c : ByteArray) : Bool := !decide (wr (sumA (byC c p)) = 0 ∧ wr (sumB (byC c p)) = 0)
theorem ag_yes {p : List Cl} {to c : ByteArray} (h : agB p c = true) : againstW p to c = some (agL p to c) := by
  unfold agB at h
  exact if_neg (by rintro ⟨h1, h2⟩; simp [h1, h2] at h)
theorem ag_no {p : List Cl} {to c : ByteArray} (h : agB p c = false) : againstW p to c = none := by
  unfold agB at h
  exact if_pos (by simpa using h)
theorem line_codes {z : Ln} (h : lineE z = 0) : codeB z.acc = true ∧ optB z.partner = true ∧ optB z.party = true := by
  unfold lineE at h
  split at h
  · cases h
  · rename_i hh
    simpa [and_assoc] using hh
theorem opt_size {s : ByteArray} (h : optB s = true) : (s.size : Int) ≤ 12 := by
  unfold optB at h
  rw [Bool.or_eq_true, decide_eq_true_eq] at h
  rcases h with rfl | h
  · decide
  · exact code_size h
theorem replay_from {l : List En} {q : Qy} : ∀ x ∈ (replayL l q).1, ∃ z : Ln, lineE z = 0 ∧ x.k.acc = z.acc ∧ x.k.cur = z.cur ∧ x.k.partner = z.partner ∧ x.k.tags = textV z.tags := fun x hx => by
  unfold replayL at hx
  split at hx
  · rename_i h0
    cases hs : sheetL (cellsL q l) with
    | none => rw [hs] at hx; cases hx
    | some s =>
      rw [hs] at hx
      obtain ⟨⟨y, hy, hk⟩, ha, hb⟩ := sheet_mem hs x hx
      obtain ⟨e, he, z, hz, rfl⟩ := cell_raw hy
      refine ⟨z, chk_lines (errL_zero h0 e he) z hz, ?_⟩
      rw [← hk]; exact ⟨rfl, rfl, rfl, rfl⟩
  · cases hx
theorem res_from {m : List Ac} {first : Int} {l : List En} {ent : ByteArray} {year book : Int} : ∀ x ∈ (resM m first l ent year book).1, ∃ z : Ln, lineE z = 0 ∧ x.k.acc = z.acc ∧ x.k.cur = z.cur ∧ x.k.partner = z.partner ∧ x.k.tags = textV z.tags := fun x hx => by
  unfold resM at hx
  split at hx
  · cases hx
  · split at hx
    · cases hx
    · split at hx
      · cases hp : pickR m (replayL l ⟨ent, 0, lastF first year, book⟩).1 with
        | none => rw [hp] at hx; cases hx
        | some s => rw [hp] at hx; exact replay_from x (pick_sub hp x hx)
      · cases hx
theorem tr_sz {ls : List Ln} {s : List Cl} {to : ByteArray} (h : ls.map Ln.e = transW s to) (hto : szS to) (hz : ∀ x ∈ s, ∃ z : Ln, lineE z = 0 ∧ x.k.acc = z.acc ∧ x.k.cur = z.cur ∧ x.k.partner = z.partner ∧ x.k.tags = textV z.tags) : ∀ y ∈ ls, y.sz := fun y hy => by
  have hm : y.e ∈ transW s to := by rw [← h]; exact List.mem_map_of_mem hy
  have key : ∀ y : Ln, y ∈ transW s to → y.sz := fun y hy => by
    have h0 : szS bs0 := by decide
    unfold transW at hy
    rcases List.mem_append.1 hy with hy | hy
    · obtain ⟨x, hx, rfl⟩ := List.mem_map.1 hy
      obtain ⟨z, hl, e1, e2, e3, e4⟩ := hz x hx
      have hc := line_codes hl
      have ht := line_tags hl
      have hcu := line_cur hl
      have htl := right_len ht
      have hp : (negL x).tags = z.tags := by
        show (parseT x.k.tags).getD [] = z.tags
        rw [e4, (raw_tags ht).2]; rfl
      have s1 := code_size hc.1
      have s2 := opt_size hc.2.1
      refine ⟨?_, ?_, ?_, h0, fun t htm => ?_, by rw [hp]; omega⟩
      · show szS x.k.acc; rw [e1]; unfold szS; omega
      · show szS x.k.cur; rw [e2]; unfold szS; omega
      · show szS x.k.partner; rw [e3]; unfold szS; omega
      · rw [hp] at htm
        obtain ⟨j, hj, rfl⟩ := List.getElem_of_mem htm
        have := tg_size (right_at ht (List.getElem?_eq_getElem hj))
        unfold szS; omega
    · obtain ⟨c, hc, he⟩ := List.mem_filterMap.1 hy
      obtain ⟨x, hx, rfl⟩ := cur_mem hc
      obtain ⟨z, hl, e1, e2, e3, e4⟩ := hz x hx
      have hcu := line_cur hl
      unfold againstW at he
      split at he
      · cases he
      · simp only [Option.some.injEq] at he
        subst he
        refine ⟨hto, ?_, h0, h0, (fun t ht => by cases ht), Nat.zero_le _⟩
        show szS x.k.cur; rw [e2]; unfold szS; omega
  have k := key y.e hm
  exact ⟨k.acc, k.cur, k.partner, k.party, k.tags, k.tl⟩
theorem last_res {m : List Ac} {first : Int} {l : List En} {ent : ByteArray} {year book : Int} (h : (resM m first l ent year book).2 = 0) : lastR m first l ent year book = lastF first year ∧ (1 ≤ first ∧ first ≤ 12) ∧ yearB first year = true := by
  obtain ⟨all, ho⟩ := res_ok2 h
  exact ⟨by unfold lastR; rw [if_pos h], ho.cal, ho.yr⟩
theorem map_e_get {xs ys : List Ln} (h : xs.map Ln.e = ys.map Ln.e) {i : Nat} {x y : Ln} (hx : xs[i]? = some x) (hy : ys[i]? = some y) : x.e = y.e := by
  have h2 := congrArg (fun l => l[i]?) h
  simp only [List.getElem?_map, hx, hy, Option.map_some, Option.some.injEq] at h2
  exact h2
theorem map_e_len {xs ys : List Ln} (h : xs.map Ln.e = ys.map Ln.e) : xs.length = ys.length := by
  have h2 := congrArg List.length h
  simpa using h2
end Go.SL

namespace Go.SL
open Go
section
variable {P : Program} {β : Base} {E : Env} {L L' M M' : List HP} {K : Value → List HP → Prop} {d : Option Tmp} {ty : TypeId} {pos : String} {af : Array Edge} {g : Option (Nat × Bool)} {x y : Operand} {t t' : TypeId} {e : TypeId} {k i : Nat} {s : ByteArray}
theorem DetJ.sliceSLo {oh : Operand} (U : P.underlying t = some .string) (hx : E.ev x = some (.string s)) (hh : E.ev oh = some (.int .i64 (i : Int))) (hi : i ≤ s.size) : DetJ P β E L ⟨d, .slice t x (some oh) none none, ty, pos, af, g⟩ (.string (s.extract i s.size)) :=
  fun a w ha _ => by
    simp only [execOp, Option.map_none, Option.map_some, ha.ev hx, ha.ev hh, Instr.sliceAt, Instr.slice]
    simp [run_underlying U, Instr.sliceBounds, Instr.sliceBound, asIntOf, hi]
theorem DetJ.sliceSHi {oh : Operand} (U : P.underlying t = some .string) (hx : E.ev x = some (.string s)) (hh : E.ev oh = some (.int .i64 (i : Int))) (hi : i ≤ s.size) : DetJ P β E L ⟨d, .slice t x none (some oh) none, ty, pos, af, g⟩ (.string (s.extract 0 i)) :=
  fun a w ha _ => by
    simp only [execOp, Option.map_none, Option.map_some, ha.ev hx, ha.ev hh, Instr.sliceAt, Instr.slice]
    simp [run_underlying U, Instr.sliceBounds, Instr.sliceBound, asIntOf, hi]
theorem OpJ.sliceLoA {oa : Option Addr} {l c : Nat} {oh : Operand} (S : SI P t e k) (hx : E.ev x = some (.slice oa l c)) (hh : E.ev oh = some (.int .i64 (i : Int))) (hi : i ≤ l)
    (h : K (.slice (cutA k oa c i) (l - i) (c - i)) L) : OpJ P β E L ⟨d, .slice t x (some oh) none none, ty, pos, af, g⟩ K :=
  OpJ.same (fun a w ha _ => by
    simp only [execOp, Option.map_none, Option.map_some, ha.ev hx, ha.ev hh, Instr.sliceAt, Instr.slice]
    simp [run_underlying S.under, Instr.sliceBounds, Instr.sliceBound, asIntOf, hi, S.run_size, cutA]
    cases oa with
    | none => simp
    | some a => simp; split <;> rfl) h
end
theorem nxT_sz {s : ByteArray} {more : Bool} {l : List UInt8} {acc : List Tg} (h : PaI s more l acc) (hs : s.size < 4294967281) (ha : ∀ t ∈ acc, szS t.name ∧ szS t.value) : ∀ t ∈ nxT l acc, szS t.name ∧ szS t.value := fun t ht => by
  rcases List.mem_append.1 ht with ht | ht
  · exact ha t ht
  · have h1 := h.sz
    have h2 : (it1 l).length ≤ l.length := cut1_fst 44 l
    have h3 := cut1_fst 61 (it1 l)
    have h4 := (cut1_len 61 (it1 l)).1
    rw [List.mem_singleton] at ht
    subst ht
    have e1 : (ba (cut1 61 (it1 l)).1).size = (cut1 61 (it1 l)).1.length := rfl
    have e2 : (ba (cut1 61 (it1 l)).2.1).size = (cut1 61 (it1 l)).2.1.length := rfl
    unfold szS
    show ((ba (cut1 61 (it1 l)).1).size : Int) ≤ _ ∧ ((ba (cut1 61 (it1 l)).2.1).size : Int) ≤ _
    omega
theorem cur_len {s : List Cl} : (curS s).length ≤ s.length := by
  have h := curT_len (f := fun x : Cl => x.k.cur) (ls := s) (i := s.length) (Nat.le_refl _)
  rw [curT_all (Nat.le_refl _)] at h; exact h
theorem ent_one {xs : List Ac} {first : Int} {l : List En} {ent : ByteArray} {year book : Int} {to who : ByteArray} : (entM xs first l ent year book to who).1 = en0 ∨ (chkN (entM xs first l ent year book to who).1).2 = 0 := by
  unfold entM
  dsimp only
  repeat' split
  all_goals first | exact Or.inl rfl | exact Or.inr (by assumption)
theorem ent_fin_sz {xs : List Ac} {first : Int} {l : List En} {ent : ByteArray} {year book : Int} {to who : ByteArray} {y : En} (h : y.e = (entM xs first l ent year book to who).1) : y.lines.length ≤ 140737488355328 ∧ ∀ z ∈ y.lines, z.tags.length ≤ 140737488355328 := by
  have e : y.e.lines = y.lines.map Ln.e := rfl
  rcases ent_one (xs := xs) (first := first) (l := l) (ent := ent) (year := year) (book := book) (to := to) (who := who) with h0 | h0
  · rw [h0] at h
    have h2 : y.lines.map Ln.e = [] := by rw [← e, h]; rfl
    rw [List.map_eq_nil_iff] at h2
    rw [h2]; exact ⟨Nat.zero_le _, fun z hz => by cases hz⟩
  · rw [← h] at h0
    have hl := chk_len h0
    rw [e, List.length_map] at hl
    refine ⟨by omega, fun z hz => ?_⟩
    have h1 := chk_lines h0 z.e (by rw [e]; exact List.mem_map_of_mem hz)
    have h2 := right_len (line_tags h1)
    have h3 : z.e.tags = z.tags := rfl
    rw [h3] at h2; omega
theorem parse_nil : parseT bs0 = some [] := by unfold parseT; rw [if_pos rfl]
theorem pa_start {s : ByteArray} (h : ¬ s = bs0) : PaI s true s.data.toList [] := by have h2 := PaI.start (s := s); rwa [decide_eq_true h] at h2
end Go.SL
