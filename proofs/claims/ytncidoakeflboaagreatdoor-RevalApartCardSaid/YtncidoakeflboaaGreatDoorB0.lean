/- Laws of the walks and of the models, part 0 (merged by program). -/
import Derived.Calls
import Derived.Orders
import Derived.Laws.World
import Derived.RangeFuncRecord
import Derived.Laws.Sem
import Derived.Laws.Strings
import Derived.Laws.Pointers
import Derived.Laws.Cells
import Derived.Laws.CopyRow
import Derived.Laws.Append
import Derived.Laws.AppendOwn
import Derived.Laws.MakeOwn
import Derived.RowKit
import Derived.KernelRfl
import Derived.OrdersHeld
import Derived.Scope
import Derived.Deep.Upon
import Derived.Lib.SliceRun
set_option linter.unusedVariables false
set_option linter.unusedSimpArgs false
set_option maxRecDepth 20000
set_option maxHeartbeats 4000000
namespace Go.SL
open Go

abbrev Hp := Nat → Option Obj
abbrev HP := Hp → Prop

def Hp.add (h1 h2 : Hp) : Hp := fun b => match h1 b with | some o => some o | none => h2 b
def Hp.disj (h1 h2 : Hp) : Prop := ∀ b, h1 b = none ∨ h2 b = none
def Hp.sub (h : Hp) (w : World) : Prop := ∀ b o, h b = some o → w.heap[b]? = some o

def emp : HP := fun h => ∀ b, h b = none
def star (A B : HP) : HP := fun h => ∃ h1 h2, Hp.disj h1 h2 ∧ h = Hp.add h1 h2 ∧ A h1 ∧ B h2
def stars : List HP → HP
  | [] => emp
  | A :: L => star A (stars L)
def pt (b : Nat) (o : Obj) : HP := fun h => ∀ c, h c = if c = b then some o else none
def blk (cs : List Value) (t : TypeId) : Obj := .cells ⟨cs⟩ t (0, 0)
def lift (p : Prop) (A : HP) : HP := fun h => p ∧ A h
def hex {α : Type} (A : α → HP) : HP := fun h => ∃ x, A x h

theorem Hp.add_none {h1 h2 : Hp} (h : ∀ b, h1 b = none) : Hp.add h1 h2 = h2 := by
  funext b; simp [Hp.add, h b]
theorem Hp.add_none' {h1 h2 : Hp} (h : ∀ b, h2 b = none) : Hp.add h1 h2 = h1 := by
  funext b; simp only [Hp.add]; cases hb : h1 b <;> simp [h b]
theorem Hp.disj.symm {h1 h2 : Hp} (h : Hp.disj h1 h2) : Hp.disj h2 h1 := fun b => (h b).symm
theorem Hp.add_comm {h1 h2 : Hp} (h : Hp.disj h1 h2) : Hp.add h1 h2 = Hp.add h2 h1 := by
  funext b
  simp only [Hp.add]
  cases h1b : h1 b <;> cases h2b : h2 b <;> simp
  have := h b; simp [h1b, h2b] at this
theorem Hp.add_assoc (h1 h2 h3 : Hp) : Hp.add (Hp.add h1 h2) h3 = Hp.add h1 (Hp.add h2 h3) := by
  funext b; simp only [Hp.add]; cases h1 b <;> simp
theorem Hp.disj_add {h1 h2 h3 : Hp} : Hp.disj h1 (Hp.add h2 h3) ↔ Hp.disj h1 h2 ∧ Hp.disj h1 h3 ∨ (∀ b, h1 b = none ∨ (Hp.add h2 h3) b = none) := by
  constructor
  · intro h; exact .inr h
  · rintro (⟨ha, hb⟩ | h)
    · intro b
      rcases ha b with h | h
      · exact .inl h
      · rcases hb b with h' | h'
        · exact .inl h'
        · exact .inr (by simp [Hp.add, h, h'])
    · exact h
theorem Hp.disj_add_left {h1 h2 h3 : Hp} (h : Hp.disj h1 (Hp.add h2 h3)) : Hp.disj h1 h2 := fun b => by
  rcases h b with h | h
  · exact .inl h
  · simp only [Hp.add] at h
    cases h2b : h2 b with
    | none => exact .inr rfl
    | some o => simp [h2b] at h
theorem Hp.disj_add_right {h1 h2 h3 : Hp} (h : Hp.disj h1 (Hp.add h2 h3)) : Hp.disj h1 h3 := fun b => by
  rcases h b with h | h
  · exact .inl h
  · simp only [Hp.add] at h
    cases h2b : h2 b with
    | none => simp [h2b] at h; exact .inr h
    | some o => simp [h2b] at h
theorem Hp.disj_add_mk {h1 h2 h3 : Hp} (ha : Hp.disj h1 h2) (hb : Hp.disj h1 h3) : Hp.disj h1 (Hp.add h2 h3) :=
  Hp.disj_add.2 (.inl ⟨ha, hb⟩)

theorem star_comm {A B : HP} {h : Hp} (hs : star A B h) : star B A h := by
  obtain ⟨h1, h2, hd, rfl, ha, hb⟩ := hs
  exact ⟨h2, h1, hd.symm, Hp.add_comm hd, hb, ha⟩
theorem star_assoc {A B C : HP} {h : Hp} (hs : star A (star B C) h) : star (star A B) C h := by
  obtain ⟨h1, h23, hd, rfl, ha, h2, h3, hd', rfl, hb, hc⟩ := hs
  exact ⟨Hp.add h1 h2, h3, (Hp.disj_add_mk (Hp.disj_add_right hd).symm hd'.symm).symm, (Hp.add_assoc _ _ _).symm, ⟨h1, h2, Hp.disj_add_left hd, rfl, ha, hb⟩, hc⟩
theorem star_assoc' {A B C : HP} {h : Hp} (hs : star (star A B) C h) : star A (star B C) h := by
  obtain ⟨h12, h3, hd, rfl, ⟨h1, h2, hd', rfl, ha, hb⟩, hc⟩ := hs
  have d1 := Hp.disj_add_left hd.symm
  have d2 := Hp.disj_add_right hd.symm
  exact ⟨h1, Hp.add h2 h3, Hp.disj_add_mk hd' d1.symm, Hp.add_assoc _ _ _, ha, h2, h3, d2.symm, rfl, hb, hc⟩
theorem star_mono {A A' B B' : HP} (ha : ∀ h, A h → A' h) (hb : ∀ h, B h → B' h) {h : Hp} (hs : star A B h) : star A' B' h := by
  obtain ⟨h1, h2, hd, rfl, a, b⟩ := hs
  exact ⟨h1, h2, hd, rfl, ha _ a, hb _ b⟩
theorem star_left {A B C : HP} {h : Hp} (hs : star A (star B C) h) : star B (star A C) h :=
  star_assoc' (star_mono (fun _ => star_comm) (fun _ => id) (star_assoc hs))

inductive Pick : List HP → HP → List HP → Prop
  | here {A : HP} {L : List HP} : Pick (A :: L) A L
  | there {A B : HP} {L M : List HP} : Pick L A M → Pick (B :: L) A (B :: M)
theorem Pick.star {L M : List HP} {A : HP} (p : Pick L A M) {h : Hp} (hs : stars L h) : SL.star A (stars M) h := by
  induction p generalizing h with
  | here => exact hs
  | there _ ih => exact star_left (star_mono (fun _ => id) (fun _ h => ih h) hs)

structure Base where
  w : World
  h : Hp

structure Rest (β : Base) (w : World) : Prop where
  frame : ∀ b, b < β.w.heap.size → β.h b = none → w.heap[b]? = β.w.heap[b]?
  size : β.w.heap.size ≤ w.heap.size
  os : w.os = β.w.os
  tape : w.tape = β.w.tape
  output : w.output = β.w.output

structure Has (β : Base) (A : HP) (w : World) : Prop where
  heap : ∃ h, A h ∧ h.sub w ∧ ∀ b, h b ≠ none → β.h b ≠ none ∨ β.w.heap.size ≤ b
  rest : Rest β w

def Sat (β : Base) (L : List HP) (w : World) : Prop := Has β (stars L) w

theorem Has.mono {β : Base} {A B : HP} {w : World} (hs : Has β A w) (h : ∀ h, A h → B h) : Has β B w := by
  obtain ⟨⟨h', ha, hsub, hown⟩, hr⟩ := hs
  exact ⟨⟨h', h _ ha, hsub, hown⟩, hr⟩
theorem Hp.sub_left {h1 h2 : Hp} {w : World} (h : (Hp.add h1 h2).sub w) : h1.sub w := fun b o hb => h b o (by simp [Hp.add, hb])
theorem Hp.sub_right {h1 h2 : Hp} {w : World} (hd : Hp.disj h1 h2) (h : (Hp.add h1 h2).sub w) : h2.sub w := fun b o hb => by
  refine h b o ?_
  rcases hd b with h' | h'
  · simp [Hp.add, h', hb]
  · rw [h'] at hb; cases hb
theorem Has.left {β : Base} {A B : HP} {w : World} (hs : Has β (star A B) w) : Has β A w := by
  obtain ⟨⟨h', ⟨h1, h2, hd, rfl, ha, hb⟩, hsub, hown⟩, hr⟩ := hs
  refine ⟨⟨h1, ha, Hp.sub_left hsub, fun b hn => hown b ?_⟩, hr⟩
  cases h1b : h1 b with
  | none => exact absurd h1b hn
  | some o => simp [Hp.add, h1b]
theorem Has.right {β : Base} {A B : HP} {w : World} (hs : Has β (star A B) w) : Has β B w :=
  Has.left (hs.mono fun _ => star_comm)
theorem Sat.pick {β : Base} {L M : List HP} {A : HP} {w : World} (hs : Sat β L w) (p : Pick L A M) : Sat β (A :: M) w := Has.mono hs fun _ => p.star
theorem Sat.tail {β : Base} {L : List HP} {A : HP} {w : World} (hs : Sat β (A :: L) w) : Sat β L w := Has.right hs

inductive Gives : List HP → List HP → Prop
  | nil {L : List HP} : Gives L []
  | cons {L L' M : List HP} {A : HP} : Pick L A L' → Gives L' M → Gives L (A :: M)
theorem Sat.gives {β : Base} {L M : List HP} {w : World} (g : Gives L M) (hs : Sat β L w) : Sat β M w := by
  obtain ⟨⟨h', ha, hsub, hown⟩, hr⟩ := hs
  suffices H : ∃ h, stars M h ∧ ∀ b o, h b = some o → h' b = some o by
    obtain ⟨h, hm, hle⟩ := H
    refine ⟨⟨h, hm, fun b o hb => hsub b o (hle b o hb), fun b hn => hown b ?_⟩, hr⟩
    cases hb : h b with
    | none => exact absurd hb hn
    | some o => rw [hle b o hb]; simp
  clear hsub hown hr
  induction g generalizing h' with
  | nil => exact ⟨fun _ => none, fun _ => rfl, fun b o hb => by cases hb⟩
  | cons p _ ih =>
    obtain ⟨h1, h2, hd, rfl, a, b⟩ := p.star ha
    obtain ⟨h3, hm, hle⟩ := ih h2 b
    have hd3 : Hp.disj h1 h3 := fun b => by
      rcases hd b with h | h
      · exact .inl h
      · cases h3b : h3 b with
        | none => exact .inr rfl
        | some o => rw [hle b o h3b] at h; cases h
    refine ⟨Hp.add h1 h3, ⟨h1, h3, hd3, rfl, a, hm⟩, fun b o hb => ?_⟩
    simp only [Hp.add] at hb ⊢
    cases h1b : h1 b with
    | some o' => simpa [h1b] using hb
    | none => simp only [h1b] at hb ⊢; exact hle b o hb


theorem Rest.of_heap {β : Base} {w w' : World} (hr : Rest β w) (hh : ∀ b, b < w.heap.size → β.h b = none → b < β.w.heap.size → w'.heap[b]? = w.heap[b]?)
    (hs : w.heap.size ≤ w'.heap.size) (ho : w'.os = w.os) (ht : w'.tape = w.tape) (hu : w'.output = w.output) : Rest β w' :=
  ⟨fun b hb hn => (hh b (Nat.lt_of_lt_of_le hb hr.size) hn hb).trans (hr.frame b hb hn), Nat.le_trans hr.size hs, ho.trans hr.os, ht.trans hr.tape, hu.trans hr.output⟩

theorem Has.same {β : Base} {A : HP} {w w' : World} (hs : Has β A w) (hh : w'.heap = w.heap) (ho : w'.os = w.os) (ht : w'.tape = w.tape) (hu : w'.output = w.output) : Has β A w' := by
  obtain ⟨⟨h, ha, hsub, hown⟩, hr⟩ := hs
  exact ⟨⟨h, ha, fun b o hb => by rw [hh]; exact hsub b o hb, hown⟩, hr.of_heap (fun b _ _ _ => by rw [hh]) (by rw [hh]; exact Nat.le_refl _) ho ht hu⟩
theorem Has.drew {β : Base} {A : HP} {w : World} (hs : Has β A w) : Has β A { w with drawn := w.drawn + 1 } := hs.same rfl rfl rfl rfl

theorem Hp.sub_lt {h : Hp} {w : World} (hs : h.sub w) {b : Nat} (hb : h b ≠ none) : b < w.heap.size := by
  cases hbo : h b with
  | none => exact absurd hbo hb
  | some o => exact (Array.getElem?_eq_some_iff.1 (hs b o hbo)).1

theorem Has.alloc {β : Base} {A : HP} {w : World} (hs : Has β A w) (o : Obj) : Has β (star (pt w.heap.size o) A) (w.alloc o) := by
  obtain ⟨⟨h, ha, hsub, hown⟩, hr⟩ := hs
  have hno : h w.heap.size = none := by
    cases hb : h w.heap.size with
    | none => rfl
    | some o' => exact absurd (Hp.sub_lt hsub (b := w.heap.size) (by simp [hb])) (by omega)
  refine ⟨⟨_, ⟨fun c => if c = w.heap.size then some o else none, h, ?_, rfl, fun c => rfl, ha⟩, ?_, ?_⟩, ?_⟩
  · intro b
    by_cases hb : b = w.heap.size
    · right; rw [hb]; exact hno
    · left; simp [hb]
  · intro b o' hb
    simp only [Hp.add] at hb
    by_cases hbs : b = w.heap.size
    · subst hbs
      simp only [if_true, Option.some.injEq] at hb
      subst hb
      exact Array.getElem?_push_size
    · simp only [hbs, if_false] at hb
      have := hsub b o' hb
      simp only [World.alloc, Array.getElem?_push, hbs, if_false]
      exact this
  · intro b hb
    simp only [Hp.add] at hb
    by_cases hbs : b = w.heap.size
    · right; rw [hbs]; exact hr.size
    · simp only [hbs, if_false] at hb
      exact hown b hb
  · refine hr.of_heap (fun b hb _ _ => ?_) (by simp) rfl rfl rfl
    simp only [World.alloc, Array.getElem?_push]
    simp [Nat.ne_of_lt hb]

theorem Has.setObj {β : Base} {A : HP} {w w' : World} {b : Nat} {o o' : Obj} (hs : Has β (star (pt b o) A) w) (hw : w'.heap = w.heap.setIfInBounds b o')
    (ho : w'.os = w.os) (ht : w'.tape = w.tape) (hu : w'.output = w.output) : Has β (star (pt b o') A) w' := by
  obtain ⟨⟨h, ⟨h1, h2, hd, rfl, h1p, h2a⟩, hsub, hown⟩, hr⟩ := hs
  have h1b : h1 b = some o := by rw [h1p b]; simp
  have hbs : b < w.heap.size := Hp.sub_lt (Hp.sub_left hsub) (by simp [h1b])
  have h2b : h2 b = none := by
    rcases hd b with h | h
    · rw [h1b] at h; cases h
    · exact h
  refine ⟨⟨_, ⟨fun c => if c = b then some o' else none, h2, ?_, rfl, fun c => rfl, h2a⟩, ?_, ?_⟩, ?_⟩
  · intro c
    by_cases hc : c = b
    · right; rw [hc]; exact h2b
    · left; simp [hc]
  · intro c u hc
    rw [hw]
    simp only [Hp.add] at hc
    by_cases hcb : c = b
    · subst hcb
      simp only [if_true, Option.some.injEq] at hc
      subst hc
      rw [Array.getElem?_setIfInBounds_self_of_lt hbs]
    · simp only [hcb, if_false] at hc
      rw [Array.getElem?_setIfInBounds_ne (Ne.symm hcb)]
      exact Hp.sub_right hd hsub c u hc
  · intro c hc
    refine hown c ?_
    simp only [Hp.add] at hc ⊢
    by_cases hcb : c = b
    · subst hcb; simp [h1b]
    · simp only [hcb, if_false] at hc
      rw [h1p c]; simp only [hcb, if_false]; exact hc
  · refine hr.of_heap (fun c hc hn hcs => ?_) (by rw [hw]; simp) ho ht hu
    rw [hw]
    by_cases hcb : c = b
    · subst hcb
      rcases hown c (by simp [Hp.add, h1b]) with h | h
      · exact absurd hn h
      · omega
    · rw [Array.getElem?_setIfInBounds_ne (Ne.symm hcb)]


def AC (P : Program) (f : FuncId) (args : Array Value) (A : HP) (Q : Value → HP) : Prop :=
  ∀ (w : World) (h : Hp), A h → h.sub w → Calls P f args w fun e w' => ∃ r, e = .returned r ∧ Has ⟨w, h⟩ (Q r) w'

theorem AC.mono {P : Program} {f : FuncId} {args : Array Value} {A A' : HP} {Q Q' : Value → HP} (h : AC P f args A Q) (ha : ∀ h, A' h → A h)
    (hq : ∀ r h, Q r h → Q' r h) : AC P f args A' Q' := fun w hp hA hs =>
  (h w hp (ha _ hA) hs).mono fun _ _ ⟨r, he, hh⟩ => ⟨r, he, hh.mono (hq r)⟩

theorem AC.frame {P : Program} {f : FuncId} {args : Array Value} {A F : HP} {Q : Value → HP} {β : Base} {w : World} (h : AC P f args A Q) (hs : Has β (star A F) w) :
    Calls P f args w fun e w' => ∃ r, e = .returned r ∧ Has β (star (Q r) F) w' := by
  obtain ⟨⟨h0, ⟨h1, h2, hd, rfl, hA, hF⟩, hsub, hown⟩, hr⟩ := hs
  refine (h w h1 hA (Hp.sub_left hsub)).mono fun e w' ⟨r, he, hh⟩ => ⟨r, he, ?_⟩
  obtain ⟨⟨h3, hQ, hsub3, hown3⟩, hr3⟩ := hh
  have hsub2 := Hp.sub_right hd hsub
  have hd3 : Hp.disj h3 h2 := fun b => by
    cases h2b : h2 b with
    | none => exact .inr rfl
    | some o =>
      refine .inl ?_
      cases h3b : h3 b with
      | none => rfl
      | some o' =>
        exfalso
        have hlt : b < w.heap.size := Hp.sub_lt hsub2 (by simp [h2b])
        rcases hown3 b (by simp [h3b]) with h | h
        · rcases hd b with h' | h'
          · exact h h'
          · rw [h2b] at h'; cases h'
        · simp only at h; omega
  refine ⟨⟨_, ⟨h3, h2, hd3, rfl, hQ, hF⟩, fun b o hb => ?_, fun b hb => ?_⟩, ?_⟩
  · simp only [Hp.add] at hb
    cases h3b : h3 b with
    | some o' => rw [h3b] at hb; simp at hb; subst hb; exact hsub3 b _ h3b
    | none =>
      rw [h3b] at hb
      simp only at hb
      have hw := hsub2 b o hb
      have hlt := (Array.getElem?_eq_some_iff.1 hw).1
      rw [hr3.frame b hlt (by rcases hd b with h | h; exact h; rw [hb] at h; cases h)]
      exact hw
  · simp only [Hp.add] at hb
    cases h3b : h3 b with
    | some o' =>
      rcases hown3 b (by simp [h3b]) with h | h
      · refine hown b ?_
        simp only [Hp.add]
        cases h1b : h1 b with
        | none => exact absurd h1b h
        | some _ => simp
      · exact .inr (Nat.le_trans hr.size h)
    | none =>
      rw [h3b] at hb
      simp only at hb
      refine hown b ?_
      simp only [Hp.add]
      cases h1b : h1 b with
      | none => exact hb
      | some _ => simp
  · refine hr.of_heap (fun b hb hn hbs => hr3.frame b hb ?_) hr3.size hr3.os hr3.tape hr3.output
    simp only
    cases h1b : h1 b with
    | none => rfl
    | some o =>
      rcases hown b (by simp [Hp.add, h1b]) with h | h
      · exact absurd hn h
      · omega

theorem AC.lift {P : Program} {f : FuncId} {args : Array Value} {p : Prop} {A : HP} {Q : Value → HP} (h : p → AC P f args A Q) : AC P f args (SL.lift p A) Q :=
  fun w hp ⟨x, hA⟩ hs => h x w hp hA hs
end Go.SL

namespace Go.SL
open Go

abbrev Env := List (Nat × Value)
def Env.get : Env → Nat → Option Value
  | [], _ => none
  | (s, v) :: E, t => match Nat.beq s t with | true => some v | false => Env.get E t
def Env.ev (E : Env) : Operand → Option Value
  | .tmp t => E.get t
  | .const v => some v
  | .global g => some (.pointer (some ⟨g, 0, none⟩))
  | .func f => some (.func (.func f) #[] #[])
def Env.put (E : Env) : Option Tmp → Value → Env
  | some t, v => (t, v) :: E
  | none, _ => E

def EOk (E : Env) (a : Act) : Prop := ∀ t v, E.get t = some v → a.tmps.getD t undef = v
structure AOk (n : Nat) (E : Env) (a : Act) : Prop where
  size : a.tmps.size = n
  env : EOk E a
  defers : a.defers = []

theorem EOk.ev {E : Env} {a : Act} (h : EOk E a) {x : Operand} {v : Value} (hx : E.ev x = some v) : a.eval x = v := by
  cases x with
  | tmp t => exact h t v hx
  | const u => simpa [Env.ev, Act.eval] using hx
  | global g => simpa [Env.ev, Act.eval] using hx
  | func f => simpa [Env.ev, Act.eval] using hx

theorem Env.get_cons (s : Nat) (v : Value) (E : Env) (t : Nat) : Env.get ((s, v) :: E) t = if s = t then some v else E.get t := by
  show (match Nat.beq s t with | true => some v | false => Env.get E t) = _
  by_cases h : s = t
  · subst h; simp
  · have : Nat.beq s t = false := by
      cases hb : Nat.beq s t with
      | false => rfl
      | true => exact absurd (Nat.eq_of_beq_eq_true hb) h
    rw [this]; simp [h]

theorem AOk.put {n : Nat} {E : Env} {a : Act} (h : AOk n E a) {d : Option Tmp} (hd : ∀ t, d = some t → t < n) (v : Value) : AOk n (E.put d v) (a.put d v) := by
  cases d with
  | none => exact h
  | some t =>
    have ht := hd t rfl
    refine ⟨by simp [Act.put, h.size], fun s u hs => ?_, h.defers⟩
    rw [Env.put, Env.get_cons] at hs
    simp only [Act.put]
    by_cases hst : t = s
    · subst hst
      simp only [if_true, Option.some.injEq] at hs
      subst hs
      simp [Array.getD, h.size, ht]
    · simp only [hst, if_false] at hs
      rw [← h.env s u hs]
      simp only [Array.getD_eq_getD_getElem?]
      rw [Array.getElem?_setIfInBounds_ne hst]

theorem AOk.sub {n : Nat} {E E' : Env} {a : Act} (h : AOk n E a) (hs : ∀ t v, E'.get t = some v → E.get t = some v) : AOk n E' a :=
  ⟨h.size, fun t v ht => h.env t v (hs t v ht), h.defers⟩

inductive Keep : List Nat → Env → Env → Prop
  | nil {E : Env} : Keep [] E []
  | cons {k : Nat} {ks : List Nat} {E E' : Env} {v : Value} : E.get k = some v → Keep ks E E' → Keep (k :: ks) E ((k, v) :: E')
theorem Keep.sub {ks : List Nat} {E E' : Env} (h : Keep ks E E') : ∀ t v, E'.get t = some v → E.get t = some v := by
  induction h with
  | nil => intro t v h; cases h
  | @cons k _ _ _ _ hk _ ih =>
    intro t v h
    rw [Env.get_cons] at h
    by_cases hkt : k = t
    · rw [if_pos hkt] at h; subst hkt; rw [hk]; exact h
    · rw [if_neg hkt] at h; exact ih t v h

abbrev Po := Exit → Env → List HP → Prop
def post (β : Base) (n : Nat) (Q : Po) : Exit → Act → World → Prop := fun e a w => ∃ E L, Q e E L ∧ AOk n E a ∧ Sat β L w

def Wr (r : Option Nat) : Fence := { Fence.wide with round := r }
def mksD (ms : List Nat) : List Deferred := ms.map fun D => { target := .collected D, args := #[] }
def dpsD (ms : List Nat) : List HP := ms.map fun D => pt D (.deferred (some []))
def postX (β : Base) (n : Nat) (ds : List Deferred) (Q : Po) : Exit → Act → World → Prop := fun e a w => ∃ E L ms a0, (e = .ret ∨ ms = []) ∧ Q e E L ∧ AOk n E a0 ∧ a = { a0 with defers := mksD ms ++ ds } ∧ Sat β (dpsD ms ++ L) w
def ndf (o : Oper) : Bool := match o.op with | .defer _ => false | _ => true
def fitC (i : Bool) : Code → Bool
  | .region _ ops _ => ops.toList.all ndf
  | .seq a b | .cond _ a b => fitC i a && fitC i b
  | .block _ a | .loop a | .scope a => fitC i a
  | .rangeFunc _ _ a b => !i && fitC true a && fitC true b
  | _ => true

def Run (P : Program) (β : Base) (n : Nat) (c : Code) (E : Env) (L : List HP) (Q : Po) : Prop :=
  ∀ a w, AOk n E a → Sat β L w → ∀ (r : Option Nat) (ds : List Deferred), fitC r.isSome c = true → c.wpIn (Wr r) 0 P (postX β n ds Q) { a with defers := ds } w
theorem postX.one {β : Base} {n : Nat} {ds : List Deferred} {Q : Po} {e : Exit} {E : Env} {L : List HP} {a : Act} {w : World} (h : Q e E L) (ha : AOk n E a) (hs : Sat β L w) : postX β n ds Q e { a with defers := ds } w :=
  ⟨E, L, [], a, .inr rfl, h, ha, rfl, hs⟩
theorem postX.not {β : Base} {n : Nat} {ds : List Deferred} {Q : Po} {e : Exit} {a : Act} {w : World} (he : e ≠ .ret) (h : postX β n ds Q e a w) : ∃ E L a0, Q e E L ∧ AOk n E a0 ∧ a = { a0 with defers := ds } ∧ Sat β L w := by
  obtain ⟨E, L, ms, a0, h1 | rfl, h2, h3, h4, h5⟩ := h
  · exact absurd h1 he
  · exact ⟨E, L, a0, h2, h3, h4, h5⟩


def roundC (P : Program) (o : Oper) (a : Act) (w : World) (next : Act → World → Prop) : Prop :=
  ∃ l f tmps asn bo w', (execOp a.eval o).run P w = .ok (.round l f tmps asn bo) w' ∧ RoundIn Fence.wide 0 P l f tmps asn bo w' fun e w'' => ∃ v, e = .returned v ∧ next (a.put o.dst v) w''
def wpSeq (P : Program) (arr : Array Oper) (Q : Exit → Act → World → Prop) : List Oper → Act → World → Prop
  | [], a, w => Q .normal a w
  | o :: os, a, w => if Region.wanted o (yielded arr a.tmps) then o.wp P a w (wpSeq P arr Q os) Q ∨ roundC P o a w (wpSeq P arr Q os) else wpSeq P arr Q os (a.put o.dst undef) w

theorem shut_def {o : Oper} (h : ndf o = true) : ∀ c, o.op ≠ .defer c := fun c e => by unfold ndf at h; rw [e] at h; cases h
theorem lost_defers {P : Program} {arr : Array Oper} {Q : Exit → Act → World → Prop} (hQ : ∀ e a w, Q e a w → e = .normal ∧ a.defers = []) : ∀ (l : List Nat) (a : Act) (w : World), a.defers ≠ [] → wpOps P arr Q l a w → False
  | [], a, w, hd, h => hd (hQ _ _ _ h).2
  | i :: l, a, w, hd, h => by
    have hput : ∀ (d : Option Tmp) (v : Value) (b : Act), b.defers ≠ [] → (b.put d v).defers ≠ [] := fun d v b hb => by cases d <;> exact hb
    simp only [wpOps] at h
    cases ho : arr[i]? with
    | none => rw [ho] at h; exact lost_defers hQ l a w hd h
    | some o =>
      rw [ho] at h
      simp only at h
      split at h
      · rcases h with h | ⟨_, a0, w0, h⟩
        · unfold Oper.wp at h
          generalize (execOp a.eval o).run P w = r at h
          cases r with
          | ok x w' =>
            cases x <;> simp only [Oper.upon] at h
            case value v => exact lost_defers hQ l _ _ (hput _ _ _ hd) h
            case skip => exact lost_defers hQ l _ _ (hput _ _ _ hd) h
            case defer d => exact lost_defers hQ l _ _ (hput _ _ _ (by simp)) h
            case enter f args =>
              obtain ⟨e, w'', fr, hr, _⟩ := h []
              cases e with
              | returned v => exact lost_defers hQ l _ _ (hput _ _ _ hd) hr
              | panicked c => have := (hQ _ _ _ hr).1; cases this
              | outgrown => obtain ⟨a0, w0, hq⟩ := hr; have := (hQ _ _ _ hq).1; cases this
            case row row args =>
              obtain ⟨v, w'', hr, _⟩ := h default []
              exact lost_defers hQ l _ _ (hput _ _ _ hd) hr
          | halt x w' =>
            cases x <;> simp only [Oper.upon] at h
            have := (hQ _ _ _ h).1; cases this
        · have := (hQ _ _ _ h).1; cases this
      · exact lost_defers hQ l _ _ (hput _ _ _ hd) h
def postD (ds : List Deferred) (Q : Exit → Act → World → Prop) : Exit → Act → World → Prop := fun e a w => ∃ a0, a = { a0 with defers := ds } ∧ Q e a0 w
theorem put_defers (a : Act) (d : Option Tmp) (v : Value) (ds : List Deferred) : ({ a with defers := ds } : Act).put d v = { a.put d v with defers := ds } := by cases d <;> rfl
theorem evalD (a : Act) (ds : List Deferred) : ({ a with defers := ds } : Act).eval = a.eval := funext fun x => by cases x <;> rfl
theorem Oper.toIn {P : Program} {o : Oper} {a : Act} {w : World} {next : Act → World → Prop} {Q : Exit → Act → World → Prop} {r : Option Nat} {ds : List Deferred} {next' : Act → World → Prop} (hn : ndf o = true) (hQ : ∀ e a w, Q e a w → e = .normal ∧ a.defers = [])
    (hd : ∀ d w', next ({ a with defers := d :: a.defers }.put o.dst undef) w' → False) (hx : ∀ v w', next (a.put o.dst v) w' → next' { a.put o.dst v with defers := ds } w') {Q' : Exit → Act → World → Prop} (h : o.wp P a w next Q) :
    o.wpIn (Wr r) 0 P { a with defers := ds } w next' Q' := by
  refine ⟨fun _ _ => trivial, ?_⟩
  rw [Oper.semAt_eq _ _ _ (shut_def hn), evalD]
  unfold Oper.wp at h
  generalize (execOp a.eval o).run P w = x at h ⊢
  cases x with
  | ok x w' =>
    cases x <;> simp only [Oper.upon, Oper.uponIn] at h ⊢
    case value v => rw [put_defers]; exact hx v w' h
    case skip => rw [put_defers]; exact hx undef w' h
    case defer d => exact (hd d w' h).elim
    case enter f args =>
      refine ⟨fun h => (by cases h), CallsIn.mono (callsIn_wide.2 h : CallsIn Fence.wide _ P f args w' _) fun e w'' he => ?_⟩
      cases e with
      | returned v => show next' (({ a with defers := ds } : Act).put o.dst v) w''; rw [put_defers]; exact hx v w'' he
      | panicked c => have := (hQ _ _ _ he).1; cases this
      | outgrown => obtain ⟨a0, w0, hq⟩ := he; have := (hQ _ _ _ hq).1; cases this
    case row row args =>
      refine ⟨fun h => (by cases h), fun c cs _ => ?_⟩
      obtain ⟨v, w'', hr, hs⟩ := h c cs
      exact ⟨v, w'', by show next' (({ a with defers := ds } : Act).put o.dst v) w''; rw [put_defers]; exact hx v w'' hr, stepsIn_wide.2 hs⟩
  | halt x w' =>
    cases x <;> simp only [Oper.upon, Oper.uponIn] at h ⊢
    have := (hQ _ _ _ h).1; cases this
theorem wpOps_in {P : Program} {arr : Array Oper} {Q : Exit → Act → World → Prop} {r : Option Nat} {ds : List Deferred} (hn : arr.toList.all ndf = true) (hQ : ∀ e a w, Q e a w → e = .normal ∧ a.defers = []) : ∀ (l : List Nat) (a : Act) (w : World), wpOps P arr Q l a w → wpOpsIn (Wr r) 0 P arr (postD ds Q) l { a with defers := ds } w
  | [], a, w, h => ⟨a, rfl, h⟩
  | i :: l, a, w, h => by
    simp only [wpOps, wpOpsIn] at h ⊢
    cases ho : arr[i]? with
    | none => rw [ho] at h; exact wpOps_in hn hQ l a w h
    | some o =>
      rw [ho] at h
      simp only at h ⊢
      have hno : ndf o = true := List.all_eq_true.1 hn o (by rw [Array.mem_toList_iff]; exact Array.mem_of_getElem? ho)
      split at h
      · rename_i hw
        rw [if_pos hw]
        rcases h with h | ⟨_, a0, w0, h⟩
        · exact Oper.toIn hno hQ (fun d w' h' => lost_defers hQ l _ w' (by cases o.dst <;> simp [Act.put]) h') (fun v w' h' => wpOps_in hn hQ l _ w' h') h
        · have := (hQ _ _ _ h).1; cases this
      · rename_i hw
        rw [if_neg hw]
        exact ⟨fun _ _ => trivial, by rw [put_defers]; exact wpOps_in hn hQ l _ w h⟩
theorem seq_defers {P : Program} {arr : Array Oper} {Q : Exit → Act → World → Prop} (hQ : ∀ e a w, Q e a w → e = .normal ∧ a.defers = []) : ∀ (os : List Oper) (a : Act) (w : World), a.defers ≠ [] → wpSeq P arr Q os a w → False
  | [], a, w, hd, h => hd (hQ _ _ _ h).2
  | o :: os, a, w, hd, h => by
    have hput : ∀ (d : Option Tmp) (v : Value) (b : Act), b.defers ≠ [] → (b.put d v).defers ≠ [] := fun d v b hb => by cases d <;> exact hb
    simp only [wpSeq] at h
    split at h
    · rcases h with h | ⟨l, f, tmps, asn, bo, w', _, h⟩
      · unfold Oper.wp at h
        generalize (execOp a.eval o).run P w = r at h
        cases r with
        | ok x w' =>
          cases x <;> simp only [Oper.upon] at h
          case value v => exact seq_defers hQ os _ _ (hput _ _ _ hd) h
          case skip => exact seq_defers hQ os _ _ (hput _ _ _ hd) h
          case defer d => exact seq_defers hQ os _ _ (hput _ _ _ (by simp)) h
          case enter f args =>
            obtain ⟨e, w'', fr, hr, _⟩ := h []
            cases e with
            | returned v => exact seq_defers hQ os _ _ (hput _ _ _ hd) hr
            | panicked c => have := (hQ _ _ _ hr).1; cases this
            | outgrown => obtain ⟨a0, w0, hq⟩ := hr; have := (hQ _ _ _ hq).1; cases this
          case row row args =>
            obtain ⟨v, w'', hr, _⟩ := h default []
            exact seq_defers hQ os _ _ (hput _ _ _ hd) hr
        | halt x w' =>
          cases x <;> simp only [Oper.upon] at h
          have := (hQ _ _ _ h).1; cases this
      · obtain ⟨e, w'', ⟨v, _, hr⟩, _⟩ := h.2 default [] (fun d hd => by cases hd)
        exact seq_defers hQ os _ _ (hput _ _ _ hd) hr
    · exact seq_defers hQ os _ _ (hput _ _ _ hd) h
theorem wpSeq_ops {P : Program} {arr : Array Oper} {Q : Exit → Act → World → Prop} {r : Option Nat} {ds : List Deferred} (hQ : ∀ e a w, Q e a w → e = .normal ∧ a.defers = []) : ∀ (os : List Oper) (k : Nat) (a : Act) (w : World), (∀ j, os[j]? = arr[k + j]?) → os.all ndf = true →
    wpSeq P arr Q os a w → wpOpsIn (Wr r) 0 P arr (postD ds Q) (List.range' k os.length) { a with defers := ds } w
  | [], k, a, w, _, _, h => ⟨a, rfl, h⟩
  | o :: os, k, a, w, hg, hn, h => by
    have h0 : arr[k]? = some o := by have := hg 0; simpa using this.symm
    have hr : ∀ j, os[j]? = arr[k + 1 + j]? := fun j => by have := hg (j + 1); simpa [Nat.add_assoc, Nat.add_comm 1 j] using this
    simp only [List.all_cons, Bool.and_eq_true] at hn
    simp only [List.length_cons, List.range'_succ, wpOpsIn, h0]
    simp only [wpSeq] at h
    split
    · rename_i hw
      rw [if_pos hw] at h
      have key : ∀ v w', wpSeq P arr Q os (a.put o.dst v) w' → wpOpsIn (Wr r) 0 P arr (postD ds Q) (List.range' (k + 1) os.length) { a.put o.dst v with defers := ds } w' := fun v w' h' => wpSeq_ops hQ os (k + 1) _ w' hr hn.2 h'
      rcases h with h | ⟨l, f, tmps, asn, bo, w', hrun, h⟩
      · exact Oper.toIn hn.1 hQ (fun d w' h' => seq_defers hQ os _ w' (by cases o.dst <;> simp [Act.put]) h') key h
      · refine ⟨fun _ _ => trivial, ?_⟩
        rw [Oper.semAt_eq _ _ _ (shut_def hn.1), evalD, hrun]
        refine ⟨fun h => (by cases h), RoundIn.mono (h : RoundIn (Wr r) 0 P l f tmps asn bo w' _) fun e w'' ⟨v, he, hv⟩ => ?_⟩
        subst he
        show wpOpsIn _ _ _ _ _ _ (({ a with defers := ds } : Act).put o.dst v) w''
        rw [put_defers]; exact key v w'' hv
    · rename_i hw
      rw [if_neg hw] at h
      exact ⟨fun _ _ => trivial, by rw [put_defers]; exact wpSeq_ops hQ os (k + 1) _ w hr hn.2 h⟩

def RunL (P : Program) (β : Base) (n : Nat) (arr : Array Oper) (os : List Oper) (E : Env) (L : List HP) (K : Env → List HP → Prop) : Prop :=
  ∀ a w, AOk n E a → Sat β L w → ∀ Q : Exit → Act → World → Prop, (∀ a' w' E' L', K E' L' → AOk n E' a' → Sat β L' w' → Q .normal a' w') → wpSeq P arr Q os a w

def OpJ (P : Program) (β : Base) (E : Env) (L : List HP) (o : Oper) (K : Value → List HP → Prop) : Prop :=
  ∀ (a : Act) (w : World), EOk E a → Sat β L w → ∀ (next : Act → World → Prop) (Q : Exit → Act → World → Prop),
    (∀ v L' w', K v L' → Sat β L' w' → next (a.put o.dst v) w') → o.wp P a w next Q

section
variable {P : Program} {β : Base} {n : Nat} {arr : Array Oper} {os : List Oper} {E : Env} {L : List HP} {K : Env → List HP → Prop} {Q : Po}

theorem RunL.nil (h : K E L) : RunL P β n arr [] E L K := fun a w ha hs _ hQ => hQ a w E L h ha hs

theorem RunL.weak {E' : Env} {L' : List HP} (he : ∀ t v, E'.get t = some v → E.get t = some v) (hl : Gives L L') (h : RunL P β n arr os E' L' K) : RunL P β n arr os E L K :=
  fun a w ha hs Q hQ => h a w (ha.sub he) (hs.gives hl) Q hQ

theorem RunL.keep {ks : List Nat} {E' : Env} (hk : Keep ks E E') (h : K E' L) : RunL P β n arr [] E L K :=
  fun a w ha hs _ hQ => hQ a w E' L h (ha.sub hk.sub) hs

def dstOk (n : Nat) (d : Option Tmp) : Bool := match d with | some t => Nat.blt t n | none => true
theorem dstOk_spec {d : Option Tmp} (h : dstOk n d = true) : ∀ t, d = some t → t < n := by
  rintro t rfl
  simpa [dstOk, Nat.blt_eq] using h

theorem RunL.op {o : Oper} (hd : dstOk n o.dst = true) (hg : o.guard = none) (h : OpJ P β E L o fun v L' => RunL P β n arr os (E.put o.dst v) L' K) : RunL P β n arr (o :: os) E L K := by
  intro a w ha hs Q hQ
  have hw : Region.wanted o (yielded arr a.tmps) = true := by simp [Region.wanted, hg]
  simp only [wpSeq, hw, if_true]
  refine .inl ?_
  exact h a w ha.env hs _ _ fun v L' w' hK hs' => hK (a.put o.dst v) w' (ha.put (dstOk_spec hd) v) hs' Q hQ

theorem yielded_of {d : Tmp} {j : Nat} {b : Bool} {a : Act} (ha : AOk n E a) (hj : (arr[j]?).bind (·.dst) = some d) (hb : E.get d = some (.bool b)) : yielded arr a.tmps j = some b := by
  have h := ha.env d _ hb
  unfold yielded
  rw [hj]
  simp only [Option.bind_some]
  rw [Array.getD_eq_getD_getElem?] at h
  cases hd : a.tmps[d]? with
  | none => rw [hd] at h; simp [undef] at h
  | some v => rw [hd] at h; simp at h; subst h; rfl

theorem RunL.yes {o : Oper} {j : Nat} {b : Bool} {d : Tmp} (hd : dstOk n o.dst = true) (hg : o.guard = some (j, b)) (hj : (arr[j]?).bind (·.dst) = some d) (hb : E.get d = some (.bool b))
    (h : OpJ P β E L o fun v L' => RunL P β n arr os (E.put o.dst v) L' K) : RunL P β n arr (o :: os) E L K := by
  intro a w ha hs Q hQ
  have hw : Region.wanted o (yielded arr a.tmps) = true := by simp [Region.wanted, hg, yielded_of ha hj hb]
  simp only [wpSeq, hw, if_true]
  refine .inl ?_
  exact h a w ha.env hs _ _ fun v L' w' hK hs' => hK (a.put o.dst v) w' (ha.put (dstOk_spec hd) v) hs' Q hQ
theorem RunL.no {o : Oper} {j : Nat} {b : Bool} {d : Tmp} (hd : dstOk n o.dst = true) (hg : o.guard = some (j, b)) (hj : (arr[j]?).bind (·.dst) = some d) (hb : E.get d = some (.bool (!b)))
    (h : RunL P β n arr os (E.put o.dst undef) L K) : RunL P β n arr (o :: os) E L K := by
  intro a w ha hs Q hQ
  have hw : Region.wanted o (yielded arr a.tmps) = false := by simp [Region.wanted, hg, yielded_of ha hj hb]
  simp only [wpSeq, hw]
  exact h (a.put o.dst undef) w (ha.put (dstOk_spec hd) undef) hs Q hQ


theorem Run.mono {c : Code} {Q' : Po} (h : Run P β n c E L Q) (hq : ∀ e E L, Q e E L → Q' e E L) : Run P β n c E L Q' := fun a w ha hs r ds hf =>
  wpIn_mono (h a w ha hs r ds hf) fun _ _ _ ⟨E', L', ms, a0, h1, hQ, rest⟩ => ⟨E', L', ms, a0, h1, hq _ _ _ hQ, rest⟩
theorem Run.weak {c : Code} {E' : Env} {L' : List HP} (he : ∀ t v, E'.get t = some v → E.get t = some v) (hl : Gives L L') (h : Run P β n c E' L' Q) : Run P β n c E L Q :=
  fun a w ha hs => h a w (ha.sub he) (hs.gives hl)

theorem Run.ofL {id : Nat} {ar : Array Oper} {dr : Bool} {a : Act} {w : World} (h : ∀ (r : Option Nat) (ds : List Deferred), ar.toList.all ndf = true → (Code.region id ar dr).wpIn (Wr r) 0 P (postD ds fun e a' w' => e = .normal ∧ post β n Q .normal a' w') { a with defers := ds } w) :
    ∀ (r : Option Nat) (ds : List Deferred), fitC r.isSome (.region id ar dr) = true → (Code.region id ar dr).wpIn (Wr r) 0 P (postX β n ds Q) { a with defers := ds } w := fun r ds hf =>
  wpIn_mono (h r ds hf) fun e a' w' ⟨a0, ha0, he, E', L', hQ, hA, hS⟩ => by subst he; subst ha0; exact postX.one hQ hA hS
theorem post.nil {e : Exit} {a : Act} {w : World} : e = .normal ∧ post β n Q .normal a w → e = .normal ∧ a.defers = [] := fun ⟨h, _, _, _, ha, _⟩ => ⟨h, ha.defers⟩
theorem Run.region {id : Nat} (h : RunL P β n arr arr.toList E L fun E' L' => Q .normal E' L') : Run P β n (.region id arr false) E L Q := fun a w ha hs => Run.ofL fun r ds hf => by
  refine wpIn_region ?_
  rw [List.range_eq_range', ← Array.length_toList]
  exact wpSeq_ops (fun e a w => post.nil) arr.toList 0 a w (by simp) hf (h a w ha hs _ fun a' w' E' L' hK ha' hs' => ⟨rfl, E', L', hK, ha', hs'⟩)

theorem Run.skip (h : Q .normal E L) : Run P β n .skip E L Q := fun _ _ ha hs r ds _ => wpIn_skip (postX.one h ha hs)
theorem Run.exit {id : Nat} (h : Q (.exit id) E L) : Run P β n (.exit id) E L Q := fun _ _ ha hs r ds _ => wpIn_exit (postX.one h ha hs)
theorem Run.ret (h : Q .ret E L) : Run P β n .ret E L Q := fun _ _ ha hs r ds _ => wpIn_ret (postX.one h ha hs)
theorem Run.label {l : Nat} (h : Q .normal E L) : Run P β n (.label l) E L Q := fun _ _ ha hs r ds _ => wpIn_label (postX.one h ha hs)

@[reducible] def thenPo (K : Env → List HP → Prop) (Q : Po) : Po
  | .normal, E, L => K E L
  | e, E, L => Q e E L
theorem fit_two {i : Bool} {x y : Code} (h : (fitC i x && fitC i y) = true) : fitC i x = true ∧ fitC i y = true := by simpa using h
theorem Run.seq {x y : Code} (h : Run P β n x E L (thenPo (fun E' L' => Run P β n y E' L' Q) Q)) : Run P β n (.seq x y) E L Q := fun a w ha hs r ds hf => by
  have hf2 := fit_two hf
  refine wpIn_seq (wpIn_mono (h a w ha hs r ds hf2.1) ?_)
  rintro e a' w' hp
  cases e with
  | normal =>
    obtain ⟨E', L', a0, hQ, ha', rfl, hs'⟩ := hp.not (by simp)
    exact hQ a0 w' ha' hs' r ds hf2.2
  | _ => exact hp
theorem Run.cond {c : Operand} {x y : Code} {b : Bool} (hc : E.ev c = some (.bool b)) (ht : b = true → Run P β n x E L Q) (hf : b = false → Run P β n y E L Q) : Run P β n (.cond c x y) E L Q :=
  fun a w ha hs r ds h2 => wpIn_cond_split (by rw [evalD]; exact ha.env.ev hc) (fun h => ht h a w ha hs r ds (fit_two h2).1) (fun h => hf h a w ha hs r ds (fit_two h2).2)
theorem Run.if {c : Operand} {x y : Code} {p : Prop} [i : Decidable p] (hc : E.ev c = some (.bool (decide p))) (ht : p → Run P β n x E L Q) (hf : ¬ p → Run P β n y E L Q) : Run P β n (.cond c x y) E L Q :=
  Run.cond hc (fun h => ht (of_decide_eq_true h)) (fun h => hf (of_decide_eq_false h))
theorem Run.true {c : Operand} {x y : Code} (hc : E.ev c = some (.bool true)) (h : Run P β n x E L Q) : Run P β n (.cond c x y) E L Q := Run.cond hc (fun _ => h) (fun h => by cases h)
theorem Run.false {c : Operand} {x y : Code} (hc : E.ev c = some (.bool false)) (h : Run P β n y E L Q) : Run P β n (.cond c x y) E L Q := Run.cond hc (fun h => by cases h) (fun _ => h)

@[reducible] def blockPo (id : Nat) (Q : Po) : Po
  | .exit id', E, L => if id' = id then Q .normal E L else Q (.exit id') E L
  | e, E, L => Q e E L
theorem Run.block {id : Nat} {c : Code} (h : Run P β n c E L (blockPo id Q)) : Run P β n (.block id c) E L Q := fun a w ha hs r ds hf => by
  refine wpIn_block (wpIn_mono (h a w ha hs r ds hf) ?_)
  rintro e a' w' hp
  cases e with
  | exit id' =>
    obtain ⟨E', L', a0, hQ, ha', rfl, hs'⟩ := hp.not (by simp)
    simp only [Exit.inBlock]
    simp only [blockPo] at hQ
    split
    · rename_i hid; rw [if_pos hid] at hQ; exact postX.one hQ ha' hs'
    · rename_i hid; rw [if_neg hid] at hQ; exact postX.one hQ ha' hs'
  | _ => exact hp

theorem Run.loop {c : Code} (I : Nat → Env → List HP → Prop) (h0 : ∃ m, I m E L) (hr : ∀ m E L, I m E L → Run P β n c E L (thenPo (fun E' L' => ∃ m', m' < m ∧ I m' E' L') Q)) : Run P β n (.loop c) E L Q := fun a w ha hs r ds hf => by
  obtain ⟨m0, hI0⟩ := h0
  intro b k cs hro hb hroom
  have key : ∀ m a w E L, I m E L → AOk n E a → Sat β L w → ∃ e a' w', postX β n ds Q e a' w' ∧ ArrivesIn (Machine.fenced P (Wr r)) P (lone (b.atR { a with defers := ds } (.code c :: .inLoop c :: k)) cs w) b k cs e a' w' := by
    intro m
    induction m using Nat.strongRecOn with
    | _ m ih =>
      intro a w E L hI ha hs
      obtain ⟨e, a1, w1, hp, harr⟩ := hr m E L hI a w ha hs r ds hf b (.inLoop c :: k) cs hro hb hroom
      cases e with
      | normal =>
        obtain ⟨E', L', a0, ⟨m', hlt, hI'⟩, ha', rfl, hs'⟩ := hp.not (by simp)
        obtain ⟨e2, a2, w2, hq2, harr2⟩ := ih m' hlt a0 w1 E' L' hI' ha' hs'
        exact ⟨e2, a2, w2, hq2, .of_steps (StepsIn.trans harr (.one (fenced_calm hb hroom rfl) stepR_inLoop)) harr2⟩
      | exit id => exact ⟨_, a1, w1, hp, .pass (x := .inLoop c) rfl (fun _ _ => .inl (by simp)) harr⟩
      | goto l => exact ⟨_, a1, w1, hp, .pass (x := .inLoop c) rfl (fun _ _ => .inl (by simp)) harr⟩
      | ret => exact ⟨_, a1, w1, hp, .pass (x := .inLoop c) rfl (fun _ _ => .inl (by simp)) harr⟩
      | panic ch => exact ⟨_, a1, w1, hp, .pass (x := .inLoop c) rfl (fun _ _ => .inl (by simp)) harr⟩
      | outgrown => exact ⟨_, a1, w1, hp, .pass (x := .inLoop c) rfl (fun _ _ => .inl (by simp)) harr⟩
  obtain ⟨e, a', w', hq, harr⟩ := key m0 a w E L hI0 ha hs
  exact ⟨e, a', w', hq, .of_steps (.one (fenced_calm hb hroom rfl) stepR_loop) harr⟩


def bodyPo (P : Program) (β : Base) (n : Nat) (fn : Func) (Q : Value → HP) : Po := fun e E L =>
  match e with
  | .normal | .ret => ∀ a w, AOk n E a → Sat β L w → ∃ v, (results fn a.tmps).run P w = .ok v w ∧ Has β (Q v) w
  | _ => False

theorem leaves_marks {fn : Func} {tmps : Array Value} {R : Ending → World → Prop} (h : ∀ w, Sat β L w → LeavesIn Fence.wide 0 P fn tmps R [] .returning w) : ∀ (ms : List Nat) (w : World), Sat β (dpsD ms ++ L) w → LeavesInM Fence.wide 0 P fn tmps R (mksD ms) .returning w
  | [], w, hs => h w hs
  | D :: ms, w, hs => by
    have hD : w.heap[D]? = some (.deferred (some [])) := by
      obtain ⟨⟨hp, ⟨h1, h2, hd, rfl, hA, _⟩, hsub, _⟩, _⟩ := hs
      exact hsub D _ (by have := hA D; simp [Hp.add, this])
    refine ⟨by simp, .inl ⟨D, w.putObj D (.deferred none), rfl, run_takeDeferred hD, leaves_marks h ms _ ?_⟩⟩
    exact Has.right (Has.setObj (o' := .deferred none) hs rfl rfl rfl rfl)
theorem AC.enter {f : FuncId} {fn : Func} {c : Code} {args : Array Value} {A : HP} {Q : Value → HP} {E : Env} (hf : P.funcs[f]? = some fn) (hb : fn.body = some c) (hfit : fitC false c = true)
    (hE : ∀ t v, E.get t = some v → (args ++ Array.replicate (fn.ntmps - args.size) undef).getD t undef = v) (hn : args.size ≤ fn.ntmps) (L : List HP) (hA : ∀ h, A h → stars L h)
    (h : ∀ β, Run P β fn.ntmps c E L (bodyPo P β fn.ntmps fn Q)) : AC P f args A Q := by
  intro w hp hAp hs
  refine callsIn_wide.1 (callsIn_of_wp_marks (F := Fence.wide) (n := 0) hf hb trivial ?_)
  refine wpIn_mono (h ⟨w, hp⟩ { tmps := args ++ Array.replicate (fn.ntmps - args.size) undef, defers := [] } w ⟨by simp; omega, hE, rfl⟩
    ⟨⟨hp, hA _ hAp, hs, fun b hb => .inl hb⟩, ⟨fun _ _ _ => rfl, Nat.le_refl _, rfl, rfl, rfl⟩⟩ none [] hfit) ?_
  rintro e a w' ⟨E', L', ms, a0, hm, hQ, ha, rfl, hs'⟩
  cases e with
  | normal =>
    obtain rfl : ms = [] := hm.resolve_left (by simp)
    obtain ⟨v, hv, hq⟩ := hQ a0 w' ha hs'; exact ⟨v, hv, v, rfl, hq⟩
  | ret =>
    show LeavesInM _ _ _ _ _ _ (mksD ms ++ []) _ _
    rw [List.append_nil]
    exact leaves_marks (fun w2 hs2 => by obtain ⟨v, hv, hq⟩ := hQ a0 w2 ha hs2; exact ⟨v, hv, v, rfl, hq⟩) ms w' hs'
  | exit _ => exact hQ.elim
  | goto _ => exact hQ.elim
  | panic _ => exact hQ.elim
  | outgrown => exact hQ.elim
end
end Go.SL

namespace Go.SL
open Go

inductive Upd : List HP → HP → HP → List HP → Prop
  | here {A B : HP} {L : List HP} : Upd (A :: L) A B (B :: L)
  | there {A B C : HP} {L L' : List HP} : Upd L A B L' → Upd (C :: L) A B (C :: L')
theorem Upd.star {L L' : List HP} {A B : HP} (u : Upd L A B L') : ∃ M : List HP, (∀ h, stars L h → SL.star A (stars M) h) ∧ ∀ h, SL.star B (stars M) h → stars L' h := by
  induction u with
  | @here A B L => exact ⟨L, fun _ h => h, fun _ h => h⟩
  | @there A B C L L' _ ih =>
    obtain ⟨M, h1, h2⟩ := ih
    exact ⟨C :: M, fun h hs => star_left (star_mono (fun _ => id) h1 hs), fun h hs => star_mono (fun _ => id) h2 (star_left hs)⟩

class TI (P : Program) (t : TypeId) (agg : outParam Bool) (size : outParam Nat) : Prop where
  under : ∃ d, P.underlying t = some d ∧ (match d with | .struct _ | .array _ _ => true | _ => false) = agg
  size : ∃ i, P.info? t = some i ∧ i.size = size
def tinfo (P : Program) (t : TypeId) : Option (Bool × Nat) :=
  match P.underlying t, P.info? t with
  | some d, some i => some ((match d with | .struct _ | .array _ _ => true | _ => false), i.size)
  | _, _ => none
theorem TI.of {P : Program} {t : TypeId} {agg : Bool} {size : Nat} (h : tinfo P t = some (agg, size)) : TI P t agg size := by
  unfold tinfo at h
  split at h
  · rename_i d i hd hi
    simp only [Option.some.injEq, Prod.mk.injEq] at h
    exact ⟨⟨d, hd, h.1⟩, ⟨i, hi, h.2⟩⟩
  · cases h

def Rd (A : HP) (a : Addr) (vs : List Value) : Prop := ∀ h, A h → ∃ (cs : Array Value) (t : TypeId) (fr : Nat × Nat), h a.block = some (.cells cs t fr) ∧ a.spot = none ∧ ∀ j v, vs[j]? = some v → cs[a.off + j]? = some v

theorem Addr.add_eq {a : Addr} (h : a.spot = none) (n : Nat) : a.add n = ⟨a.block, a.off + n, none⟩ := by
  cases a; simp only at h; subst h; unfold Addr.add; split <;> simp_all

theorem Rd.cell {A : HP} {a : Addr} {vs : List Value} (hr : Rd A a vs) {h : Hp} (ha : A h) {w : World} (hs : h.sub w) : ∀ j v, vs[j]? = some v → w.cell? (a.add j) = some v := by
  obtain ⟨cs, t, fr, hb, hsp, hc⟩ := hr h ha
  intro j v hj
  rw [Addr.add_eq hsp]
  have := hs _ _ hb
  simp [World.cell?, this, hc j v hj]

theorem Sat.rd {β : Base} {L M : List HP} {A : HP} {a : Addr} {vs : List Value} {w : World} (hs : Sat β L w) (p : Pick L A M) (hr : Rd A a vs) : ∀ j v, vs[j]? = some v → w.cell? (a.add j) = some v := by
  obtain ⟨⟨h, hl, hsub, _⟩, _⟩ := hs
  obtain ⟨h1, h2, _, rfl, ha, _⟩ := p.star hl
  exact hr.cell ha (Hp.sub_left hsub)

theorem Rd.pt {b off : Nat} {cs : List Value} {t : TypeId} {vs : List Value} (h : ∀ j v, vs[j]? = some v → cs[off + j]? = some v) : Rd (pt b (blk cs t)) ⟨b, off, none⟩ vs :=
  fun hp hh => ⟨⟨cs⟩, t, (0, 0), by rw [hh]; simp [blk], rfl, fun j v hj => by simpa using h j v hj⟩
theorem Rd.whole {b : Nat} {cs : List Value} {t : TypeId} : Rd (SL.pt b (blk cs t)) ⟨b, 0, none⟩ cs := Rd.pt fun j v h => by simpa using h
theorem Rd.one {b off : Nat} {cs : List Value} {t : TypeId} {v : Value} (h : cs[off]? = some v) : Rd (SL.pt b (blk cs t)) ⟨b, off, none⟩ [v] := Rd.pt fun j u hj => by
  match j, hj with
  | 0, hj => simp at hj; subst hj; exact h
theorem Rd.part {b off n : Nat} {cs : List Value} {t : TypeId} : Rd (SL.pt b (blk cs t)) ⟨b, off, none⟩ ((cs.drop off).take n) := Rd.pt fun j u hj => by
  rw [List.getElem?_take] at hj
  split at hj
  · simpa using hj
  · cases hj

section
variable {P : Program} {β : Base} {E : Env} {L L' M : List HP} {K : Value → List HP → Prop} {d : Option Tmp} {ty : TypeId} {pos : String} {af : Array Edge} {g : Option (Nat × Bool)}

theorem OpJ.same {o : Oper} {v : Value} (h : ∀ a w, EOk E a → Sat β L w → (execOp a.eval o).run P w = .ok (.value v) w) (k : K v L) : OpJ P β E L o K := fun a w ha hs next Q hn => by
  unfold Oper.wp
  rw [h a w ha hs]
  exact hn v L w k hs
theorem OpJ.skips {o : Oper} (h : ∀ a w, EOk E a → Sat β L w → ∃ w', (execOp a.eval o).run P w = .ok .skip w' ∧ Sat β L' w') (k : K undef L') : OpJ P β E L o K := fun a w ha hs next Q hn => by
  obtain ⟨w', hr, hs'⟩ := h a w ha hs
  unfold Oper.wp
  rw [hr]
  exact hn undef L' w' k hs'
theorem OpJ.vals {o : Oper} (h : ∀ a w, EOk E a → Sat β L w → ∃ v L' w', (execOp a.eval o).run P w = .ok (.value v) w' ∧ Sat β L' w' ∧ K v L') : OpJ P β E L o K := fun a w ha hs next Q hn => by
  obtain ⟨v, L', w', hr, hs', k⟩ := h a w ha hs
  unfold Oper.wp
  rw [hr]
  exact hn v L' w' k hs'

theorem OpJ.move {x : Operand} {v : Value} (hx : E.ev x = some v) (k : K v L) : OpJ P β E L ⟨d, .move x, ty, pos, af, g⟩ K :=
  OpJ.same (fun a w ha _ => by simp [execOp, ha.ev hx]) k
theorem OpJ.assign {x : Operand} {v : Value} (hx : E.ev x = some v) (k : K v L) : OpJ P β E L ⟨d, .assign x, ty, pos, af, g⟩ K :=
  OpJ.same (fun a w ha _ => by simp [execOp, ha.ev hx]) k
theorem OpJ.pick {c x y : Operand} {b : Bool} {u v : Value} (hc : E.ev c = some (.bool b)) (hx : E.ev x = some u) (hy : E.ev y = some v) (k : K (if b then u else v) L) : OpJ P β E L ⟨d, .pick c x y, ty, pos, af, g⟩ K :=
  OpJ.same (fun a w ha _ => by simp [execOp, ha.ev hc, ha.ev hx, ha.ev hy, asBool]) k
theorem OpJ.pickT {c x y : Operand} {u : Value} (hc : E.ev c = some (.bool true)) (hx : E.ev x = some u) (k : K u L) : OpJ P β E L ⟨d, .pick c x y, ty, pos, af, g⟩ K :=
  OpJ.same (fun a w ha _ => by simp [execOp, ha.ev hc, ha.ev hx, asBool]) k
theorem OpJ.pickF {c x y : Operand} {v : Value} (hc : E.ev c = some (.bool false)) (hy : E.ev y = some v) (k : K v L) : OpJ P β E L ⟨d, .pick c x y, ty, pos, af, g⟩ K :=
  OpJ.same (fun a w ha _ => by simp [execOp, ha.ev hc, ha.ev hy, asBool]) k

section
variable {x y : Operand} {t t' : TypeId} {k k' : IntKind} {m n : Int}
theorem OpJ.add (hx : E.ev x = some (.int k m)) (hy : E.ev y = some (.int k n)) (h : K (.int k (k.wrap (m + n))) L) : OpJ P β E L ⟨d, .binOp .add t x y t', ty, pos, af, g⟩ K :=
  OpJ.same (fun a w ha _ => by simp [execOp, ha.ev hx, ha.ev hy, eqGuard, binOp, Op.intArith]) h
theorem OpJ.sub (hx : E.ev x = some (.int k m)) (hy : E.ev y = some (.int k n)) (h : K (.int k (k.wrap (m - n))) L) : OpJ P β E L ⟨d, .binOp .sub t x y t', ty, pos, af, g⟩ K :=
  OpJ.same (fun a w ha _ => by simp [execOp, ha.ev hx, ha.ev hy, eqGuard, binOp, Op.intArith]) h
theorem OpJ.mul (hx : E.ev x = some (.int k m)) (hy : E.ev y = some (.int k n)) (h : K (.int k (k.wrap (m * n))) L) : OpJ P β E L ⟨d, .binOp .mul t x y t', ty, pos, af, g⟩ K :=
  OpJ.same (fun a w ha _ => by simp [execOp, ha.ev hx, ha.ev hy, eqGuard, binOp, Op.intArith]) h
theorem wrap_i64_in {z : Int} (h : -9223372036854775808 ≤ z ∧ z ≤ 9223372036854775807) : IntKind.i64.wrap z = z := by rw [IntKind.wrap_i64]; omega
theorem OpJ.addI (hx : E.ev x = some (.int .i64 m)) (hy : E.ev y = some (.int .i64 n)) (hb : -9223372036854775808 ≤ m + n ∧ m + n ≤ 9223372036854775807) (h : K (.int .i64 (m + n)) L) : OpJ P β E L ⟨d, .binOp .add t x y t', ty, pos, af, g⟩ K :=
  OpJ.add hx hy (by rw [wrap_i64_in hb]; exact h)
theorem OpJ.subI (hx : E.ev x = some (.int .i64 m)) (hy : E.ev y = some (.int .i64 n)) (hb : -9223372036854775808 ≤ m - n ∧ m - n ≤ 9223372036854775807) (h : K (.int .i64 (m - n)) L) : OpJ P β E L ⟨d, .binOp .sub t x y t', ty, pos, af, g⟩ K :=
  OpJ.sub hx hy (by rw [wrap_i64_in hb]; exact h)
theorem OpJ.quo (hx : E.ev x = some (.int k m)) (hy : E.ev y = some (.int k n)) (h0 : n ≠ 0) (h : K (.int k (k.wrap (m.tdiv n))) L) : OpJ P β E L ⟨d, .binOp .quo t x y t', ty, pos, af, g⟩ K :=
  OpJ.same (fun a w ha _ => by simp [execOp, ha.ev hx, ha.ev hy, eqGuard, binOp, Op.intDiv, h0]) h
theorem OpJ.rem (hx : E.ev x = some (.int k m)) (hy : E.ev y = some (.int k n)) (h0 : n ≠ 0) (h : K (.int k (m.tmod n)) L) : OpJ P β E L ⟨d, .binOp .rem t x y t', ty, pos, af, g⟩ K :=
  OpJ.same (fun a w ha _ => by simp [execOp, ha.ev hx, ha.ev hy, eqGuard, binOp, Op.intDiv, h0]) h
theorem OpJ.lss (hx : E.ev x = some (.int k m)) (hy : E.ev y = some (.int k n)) (h : K (.bool (decide (m < n))) L) : OpJ P β E L ⟨d, .binOp .lss t x y t', ty, pos, af, g⟩ K :=
  OpJ.same (fun a w ha _ => by simp [execOp, ha.ev hx, ha.ev hy, eqGuard, binOp, Op.intCmp]) h
theorem OpJ.leq (hx : E.ev x = some (.int k m)) (hy : E.ev y = some (.int k n)) (h : K (.bool (decide (m ≤ n))) L) : OpJ P β E L ⟨d, .binOp .leq t x y t', ty, pos, af, g⟩ K :=
  OpJ.same (fun a w ha _ => by simp [execOp, ha.ev hx, ha.ev hy, eqGuard, binOp, Op.intCmp]) h
theorem OpJ.gtr (hx : E.ev x = some (.int k m)) (hy : E.ev y = some (.int k n)) (h : K (.bool (decide (n < m))) L) : OpJ P β E L ⟨d, .binOp .gtr t x y t', ty, pos, af, g⟩ K :=
  OpJ.same (fun a w ha _ => by simp [execOp, ha.ev hx, ha.ev hy, eqGuard, binOp, Op.intCmp]) h
theorem OpJ.geq (hx : E.ev x = some (.int k m)) (hy : E.ev y = some (.int k n)) (h : K (.bool (decide (n ≤ m))) L) : OpJ P β E L ⟨d, .binOp .geq t x y t', ty, pos, af, g⟩ K :=
  OpJ.same (fun a w ha _ => by simp [execOp, ha.ev hx, ha.ev hy, eqGuard, binOp, Op.intCmp]) h
theorem OpJ.eql (hx : E.ev x = some (.int k m)) (hy : E.ev y = some (.int k n)) (h : K (.bool (decide (m = n))) L) : OpJ P β E L ⟨d, .binOp .eql t x y t', ty, pos, af, g⟩ K :=
  OpJ.same (fun a w ha _ => by simp [execOp, ha.ev hx, ha.ev hy, eqGuard, binOp, Op.intCmp]; rfl) h
theorem OpJ.neq (hx : E.ev x = some (.int k m)) (hy : E.ev y = some (.int k n)) (h : K (.bool (decide (m ≠ n))) L) : OpJ P β E L ⟨d, .binOp .neq t x y t', ty, pos, af, g⟩ K :=
  OpJ.same (fun a w ha _ => by
    simp [execOp, ha.ev hx, ha.ev hy, eqGuard, binOp, Op.intCmp]
    by_cases h : m = n <;> simp [h]) h
theorem OpJ.shl (hx : E.ev x = some (.int k m)) (hy : E.ev y = some (.int k' n)) (h0 : 0 ≤ n) (h : K (.int k (k.wrap (m * 2 ^ (min n.toNat k.bits)))) L) : OpJ P β E L ⟨d, .binOp .shl t x y t', ty, pos, af, g⟩ K :=
  OpJ.same (fun a w ha _ => by simp [execOp, ha.ev hx, ha.ev hy, eqGuard, binOp, Op.shift, Int.not_lt.2 h0]) h
theorem OpJ.shr (hx : E.ev x = some (.int k m)) (hy : E.ev y = some (.int k' n)) (h0 : 0 ≤ n) (h : K (.int k (m.fdiv (2 ^ (min n.toNat k.bits)))) L) : OpJ P β E L ⟨d, .binOp .shr t x y t', ty, pos, af, g⟩ K :=
  OpJ.same (fun a w ha _ => by simp [execOp, ha.ev hx, ha.ev hy, eqGuard, binOp, Op.shift, Int.not_lt.2 h0]) h
theorem OpJ.band (hx : E.ev x = some (.int k m)) (hy : E.ev y = some (.int k n)) (h : K (.int k (k.wrap (BitVec.ofInt k.bits m &&& BitVec.ofInt k.bits n).toNat)) L) : OpJ P β E L ⟨d, .binOp .and t x y t', ty, pos, af, g⟩ K :=
  OpJ.same (fun a w ha _ => by simp [execOp, ha.ev hx, ha.ev hy, eqGuard, binOp, Op.intBits]) h
theorem OpJ.bor (hx : E.ev x = some (.int k m)) (hy : E.ev y = some (.int k n)) (h : K (.int k (k.wrap (BitVec.ofInt k.bits m ||| BitVec.ofInt k.bits n).toNat)) L) : OpJ P β E L ⟨d, .binOp .or t x y t', ty, pos, af, g⟩ K :=
  OpJ.same (fun a w ha _ => by simp [execOp, ha.ev hx, ha.ev hy, eqGuard, binOp, Op.intBits]) h
theorem OpJ.neg (hx : E.ev x = some (.int k m)) (h : K (.int k (k.wrap (0 - m))) L) : OpJ P β E L ⟨d, .unOp .neg t x, ty, pos, af, g⟩ K :=
  OpJ.same (fun a w ha _ => by simp [execOp, ha.ev hx, Op.unary, Op.intArith]) h
theorem OpJ.not {b : Bool} (hx : E.ev x = some (.bool b)) (h : K (.bool (!b)) L) : OpJ P β E L ⟨d, .unOp .not t x, ty, pos, af, g⟩ K :=
  OpJ.same (fun a w ha _ => by simp [execOp, ha.ev hx, Op.unary]) h
theorem OpJ.conv (hs : (P.underlying t).isSome = true) (hd : P.underlying t' = some (.int k')) (hx : E.ev x = some (.int k m)) (h : K (.int k' (k'.wrap m)) L) : OpJ P β E L ⟨d, .convert t t' x, ty, pos, af, g⟩ K :=
  OpJ.same (fun a w ha _ => by
    obtain ⟨u, hu⟩ := Option.isSome_iff_exists.1 hs
    simp only [execOp, ha.ev hx]
    simp [convert, run_underlying hu, run_underlying hd, Conv.intToInt]) h
end

section
variable {x y : Operand} {t t' : TypeId} {s u : ByteArray}
theorem str_eq (s u : ByteArray) : (s.toList == u.toList) = decide (s = u) := by
  rw [ByteArray.toList_eq, ByteArray.toList_eq]
  by_cases h : s = u
  · subst h; simp
  · have : ¬ s.data.toList = u.data.toList := fun e => h (by cases s; cases u; simp only [ByteArray.mk.injEq] at *; exact Array.toList_inj.1 e)
    simp only [h, decide_false, beq_eq_false_iff_ne, ne_eq]; exact this
theorem OpJ.eqlS (hx : E.ev x = some (.string s)) (hy : E.ev y = some (.string u)) (h : K (.bool (decide (s = u))) L) : OpJ P β E L ⟨d, .binOp .eql t x y t', ty, pos, af, g⟩ K :=
  OpJ.same (fun a w ha _ => by simp [execOp, ha.ev hx, ha.ev hy, eqGuard, binOp, Op.stringOp, str_eq]) h
theorem OpJ.neqS (hx : E.ev x = some (.string s)) (hy : E.ev y = some (.string u)) (h : K (.bool (decide (s ≠ u))) L) : OpJ P β E L ⟨d, .binOp .neq t x y t', ty, pos, af, g⟩ K :=
  OpJ.same (fun a w ha _ => by simp [execOp, ha.ev hx, ha.ev hy, eqGuard, binOp, Op.stringOp, str_eq]) h
theorem OpJ.lssS (hx : E.ev x = some (.string s)) (hy : E.ev y = some (.string u)) (h : K (.bool (Op.bytesLess s.toList u.toList)) L) : OpJ P β E L ⟨d, .binOp .lss t x y t', ty, pos, af, g⟩ K :=
  OpJ.same (fun a w ha _ => by simp [execOp, ha.ev hx, ha.ev hy, eqGuard, binOp, Op.stringOp]) h
theorem OpJ.gtrS (hx : E.ev x = some (.string s)) (hy : E.ev y = some (.string u)) (h : K (.bool (!(Op.bytesLess s.toList u.toList || decide (s = u)))) L) : OpJ P β E L ⟨d, .binOp .gtr t x y t', ty, pos, af, g⟩ K :=
  OpJ.same (fun a w ha _ => by simp [execOp, ha.ev hx, ha.ev hy, eqGuard, binOp, Op.stringOp, str_eq]) h
end

section
variable {x y : Operand} {t t' : TypeId}
theorem OpJ.neqNil {p : Option Addr} (ht : P.underlying t = some (.pointer (P.pointee t))) (hx : E.ev x = some (.pointer p)) (h : K (.bool p.isSome) L) : OpJ P β E L ⟨d, .binOp .neq t x (.const (.pointer none)) t', ty, pos, af, g⟩ K :=
  OpJ.same (fun a w ha _ => by
    have hc : a.eval (.const (.pointer none)) = .pointer none := rfl
    simp only [execOp, ha.ev hx, hc]
    simp [eqGuard, run_neq_pointer_nil w t p ht]) h
theorem OpJ.eqlNil {p : Option Addr} (ht : P.underlying t = some (.pointer (P.pointee t))) (hx : E.ev x = some (.pointer p)) (h : K (.bool p.isNone) L) : OpJ P β E L ⟨d, .binOp .eql t x (.const (.pointer none)) t', ty, pos, af, g⟩ K :=
  OpJ.same (fun a w ha _ => by
    have hc : a.eval (.const (.pointer none)) = .pointer none := rfl
    simp only [execOp, ha.ev hx, hc]
    simp [eqGuard, run_eql_pointer_nil w t p ht]) h
theorem OpJ.nilCheck {p : Addr} (hx : E.ev x = some (.pointer (some p))) (h : K (.pointer (some p)) L) : OpJ P β E L ⟨d, .nilCheck x, ty, pos, af, g⟩ K :=
  OpJ.same (fun a w ha _ => by simp [execOp, ha.ev hx]) h
def Env.evs (E : Env) : List Operand → Option (List Value)
  | [] => some []
  | x :: xs => match E.ev x, Env.evs E xs with | some v, some vs => some (v :: vs) | _, _ => none
theorem EOk.evs {a : Act} (h : EOk E a) : ∀ {xs : List Operand} {vs : List Value}, E.evs xs = some vs → xs.map a.eval = vs
  | [], vs, e => by simp [Env.evs] at e; simp [e]
  | x :: xs, vs, e => by
    simp only [Env.evs] at e
    split at e
    · rename_i v vs' hv hvs
      simp only [Option.some.injEq] at e
      subst e
      simp [h.ev hv, EOk.evs h hvs]
    · cases e
theorem OpJ.makeFunc {fn : Fn} {xs ys : List Operand} {vs us : List Value} (hx : E.evs xs = some vs) (hy : E.evs ys = some us) (h : K (.func fn ⟨vs⟩ ⟨us⟩) L) : OpJ P β E L ⟨d, .makeFunc fn ⟨xs⟩ ⟨ys⟩, ty, pos, af, g⟩ K :=
  OpJ.same (fun a w ha _ => by
    have h1 : Array.map a.eval ⟨xs⟩ = ⟨vs⟩ := by rw [List.map_toArray, ha.evs hx]
    have h2 : Array.map a.eval ⟨ys⟩ = ⟨us⟩ := by rw [List.map_toArray, ha.evs hy]
    simp [execOp, h1, h2, Instr.makeFunc]) h
theorem OpJ.extract {vs : List Value} {i : Nat} {v : Value} (hx : E.ev x = some (.tuple ⟨vs⟩)) (hi : vs[i]? = some v) (h : K v L) : OpJ P β E L ⟨d, .extract x i, ty, pos, af, g⟩ K :=
  OpJ.same (fun a w ha _ => by simp [execOp, ha.ev hx, Instr.extract, hi]) h
end

section
variable {x y : Operand} {t t' : TypeId}
theorem TI.run_isAgg {agg : Bool} {n : Nat} (T : TI P t agg n) (w : World) : (isAgg t).run P w = .ok agg w := by
  obtain ⟨d, hd, rfl⟩ := T.under
  unfold isAgg
  rw [Sem.run_bind, run_underlying hd w]
  cases d <;> simp
theorem TI.run_size {agg : Bool} {n : Nat} (T : TI P t agg n) (w : World) : (sizeOf t).run P w = .ok n w := by
  obtain ⟨i, hi, rfl⟩ := T.size
  simp [sizeOf, typeInfo, hi]
theorem TI.loadAgg {n : Nat} (T : TI P t true n) {w : World} {a : Addr} {vs : List Value} (hn : vs.length = n) (hc : ∀ j v, vs[j]? = some v → w.cell? (a.add j) = some v) : (loadVar t a).run P w = .ok (.agg ⟨vs⟩) w := by
  subst hn
  simp [loadVar, T.run_isAgg, T.run_size, run_loadCells_list (P := P) w a vs hc]
theorem TI.load1 {n : Nat} (T : TI P t false n) {w : World} {a : Addr} {v : Value} (hc : w.cell? a = some v) : (loadVar t a).run P w = .ok v w := by
  simp [loadVar, T.run_isAgg, run_load, hc]
theorem Addr.add_zero (a : Addr) : a.add 0 = a := by simp [Addr.add]
theorem OpJ.loadA {n : Nat} {a : Addr} {A : HP} {vs : List Value} (T : TI P t true n) (hx : E.ev x = some (.pointer (some a))) (p : Pick L A M) (hr : Rd A a vs) (hn : vs.length = n) (h : K (.agg ⟨vs⟩) L) : OpJ P β E L ⟨d, .load t x, ty, pos, af, g⟩ K :=
  OpJ.same (fun b w ha hs => by
    have hl := T.loadAgg hn (hs.rd p hr)
    simp [execOp, ha.ev hx, Instr.loadAt, Instr.sureAddr, hl]) h
theorem OpJ.load1 {n : Nat} {a : Addr} {A : HP} {v : Value} (T : TI P t false n) (hx : E.ev x = some (.pointer (some a))) (p : Pick L A M) (hr : Rd A a [v]) (h : K v L) : OpJ P β E L ⟨d, .load t x, ty, pos, af, g⟩ K :=
  OpJ.same (fun b w ha hs => by
    have hc := hs.rd p hr 0 v rfl
    rw [Addr.add_zero] at hc
    have hl := T.load1 hc
    simp [execOp, ha.ev hx, Instr.loadAt, Instr.sureAddr, hl]) h

theorem run_storeVar_at {agg : Bool} {n : Nat} (T : TI P t agg n) {w : World} {b o : Nat} {cs vs : List Value} {bt : TypeId} {v : Value} (hv : v.cells.toList = vs) (hn : vs.length = n)
    (hb : w.heap[b]? = some (blk cs bt)) (hl : o + n ≤ cs.length) (h1 : ∀ v ∈ vs, v.oneCell' = true) :
    ∃ w', (storeVar t ⟨b, o, none⟩ v).run P w = .ok () w' ∧ w'.heap = w.heap.setIfInBounds b (blk (cs.take o ++ vs ++ cs.drop (o + n)) bt) ∧ w'.os = w.os ∧ w'.tape = w.tape ∧ w'.output = w.output := by
  subst hv
  subst hn
  have hst := run_storeCells_at P b o bt v.cells.toList 0 ⟨cs⟩ w hb (by simpa using hl) h1
  have hs2 : v.cells.size = v.cells.toList.length := by simp
  refine ⟨w.setRow b (cs.take o ++ v.cells.toList ++ cs.drop (o + v.cells.toList.length)).toArray, by simp only [storeVar, Sem.run_bind, T.run_size, Result.andThen_ok, hs2, ne_eq, not_true, if_false]; exact hst, ?_, rfl, rfl, rfl⟩
  have := setRow_heap w b ⟨cs⟩ (cs.take o ++ v.cells.toList ++ cs.drop (o + v.cells.toList.length)).toArray bt (0, 0) hb
  apply Array.ext_getElem?
  intro j
  by_cases hj : j = b
  · subst hj
    rw [this, Array.getElem?_setIfInBounds_self_of_lt (Array.getElem?_eq_some_iff.1 hb).1]
    rfl
  · rw [Array.getElem?_setIfInBounds_ne (Ne.symm hj)]
    exact setRow_other w b j _ hj
theorem OpJ.store {agg : Bool} {n : Nat} {b o : Nat} {cs vs : List Value} {bt : TypeId} {v : Value} (T : TI P t agg n) (hx : E.ev x = some (.pointer (some ⟨b, o, none⟩))) (hy : E.ev y = some v) (hv : v.cells.toList = vs) (hn : vs.length = n)
    (h1 : ∀ v ∈ vs, v.oneCell' = true) (u : Upd L (pt b (blk cs bt)) (pt b (blk (cs.take o ++ vs ++ cs.drop (o + n)) bt)) L') (hl : o + n ≤ cs.length) (h : K undef L') : OpJ P β E L ⟨d, .store t x y, ty, pos, af, g⟩ K :=
  OpJ.skips (fun a w ha hs => by
    obtain ⟨M, g1, g2⟩ := u.star
    have hs1 : Has β (star (pt b (blk cs bt)) (stars M)) w := Has.mono hs g1
    have hb : w.heap[b]? = some (blk cs bt) := by
      obtain ⟨⟨h, ⟨h1, h2, _, rfl, hp, _⟩, hsub, _⟩, _⟩ := hs1
      exact Hp.sub_left hsub b _ (by rw [hp]; simp)
    obtain ⟨w', hr, hh, ho, ht, hu⟩ := run_storeVar_at T hv hn hb hl h1
    exact ⟨w', by simp [execOp, ha.ev hx, ha.ev hy, Instr.storeAt, Instr.sureAddr, hr], (hs1.setObj hh ho ht hu).mono g2⟩) h
theorem set_splice {cs : List Value} {o : Nat} (v : Value) (h : o < cs.length) : cs.take o ++ [v] ++ cs.drop (o + 1) = cs.set o v := by
  rw [List.set_eq_take_append_cons_drop]; simp [h]
theorem OpJ.store1 {b o : Nat} {cs : List Value} {bt : TypeId} {v : Value} (T : TI P t false 1) (hx : E.ev x = some (.pointer (some ⟨b, o, none⟩))) (hy : E.ev y = some v) (h1 : v.oneCell' = true)
    (u : Upd L (pt b (blk cs bt)) (pt b (blk (cs.set o v) bt)) L') (hl : o < cs.length) (h : K undef L') : OpJ P β E L ⟨d, .store t x y, ty, pos, af, g⟩ K :=
  OpJ.store T hx hy (vs := [v]) (by cases v <;> first | rfl | (simp [Value.oneCell'] at h1)) rfl (by simpa using h1) (by rw [set_splice v hl]; exact u) (by omega) h
theorem OpJ.storeW {n : Nat} {b : Nat} {cs vs : List Value} {bt : TypeId} (T : TI P t true n) (hx : E.ev x = some (.pointer (some ⟨b, 0, none⟩))) (hy : E.ev y = some (.agg ⟨vs⟩)) (hn : vs.length = n) (hc : cs.length = n)
    (h1 : ∀ v ∈ vs, v.oneCell' = true) (u : Upd L (pt b (blk cs bt)) (pt b (blk vs bt)) L') (h : K undef L') : OpJ P β E L ⟨d, .store t x y, ty, pos, af, g⟩ K :=
  OpJ.store T hx hy (vs := vs) rfl hn h1 (by
    have : cs.take 0 ++ vs ++ cs.drop (0 + n) = vs := by simp [hc]
    rw [this]; exact u) (by omega) h

class ZI (P : Program) (t : TypeId) (zs : outParam (List Value)) : Prop where
  zero : ∃ i z, P.info? t = some i ∧ i.zero = some z ∧ z.cells.toList = zs
theorem ZI.of {zs : List Value} (h : ((P.info? t).bind (·.zero)).map (·.cells.toList) = some zs) : ZI P t zs := by
  cases hi : P.info? t with
  | none => simp [hi] at h
  | some i =>
    cases hz : i.zero with
    | none => simp [hi, hz] at h
    | some z => exact ⟨i, z, hi, hz, by simpa [hi, hz] using h⟩
theorem OpJ.alloc {zs : List Value} (Z : ZI P t zs) (h : ∀ b, K (.pointer (some ⟨b, 0, none⟩)) (pt b (blk zs t) :: L)) : OpJ P β E L ⟨d, .alloc t, ty, pos, af, g⟩ K :=
  OpJ.vals fun a w ha hs => by
    obtain ⟨i, z, hi, hz, rfl⟩ := Z.zero
    refine ⟨.pointer (some ⟨w.heap.size, 0, none⟩), pt w.heap.size (blk z.cells.toList t) :: L, w.alloc (blk z.cells.toList t), ?_, Has.alloc hs _, h w.heap.size⟩
    simp [execOp, Instr.alloc, zeroValue, typeInfo, hi, hz, newVar, newRow, blk]
theorem OpJ.box {v : Value} {vs : List Value} (hx : E.ev x = some v) (hv : v.cells.toList = vs) (h : ∀ b, K (.pointer (some ⟨b, 0, none⟩)) (pt b (blk vs t) :: L)) : OpJ P β E L ⟨d, .box t x, ty, pos, af, g⟩ K :=
  OpJ.vals fun a w ha hs => by
    subst hv
    refine ⟨.pointer (some ⟨w.heap.size, 0, none⟩), pt w.heap.size (blk v.cells.toList t) :: L, w.alloc (blk v.cells.toList t), ?_, Has.alloc hs _, h w.heap.size⟩
    simp [execOp, ha.ev hx, Instr.box, newVar, newRow, blk]

class FI (P : Program) (s : TypeId) (i : Nat) (ft : outParam TypeId) (off : outParam Nat) : Prop where
  fld : ∃ fs f, P.underlying s = some (.struct fs) ∧ fs[i]? = some f ∧ f.offset = off ∧ f.type = ft ∧ ∃ j, P.info? ft = some j ∧ j.size ≠ 0
def finfo (P : Program) (s : TypeId) (i : Nat) : Option (TypeId × Nat × Bool) :=
  match P.underlying s with
  | some (.struct fs) => match fs[i]? with
    | some f => match P.info? f.type with | some j => some (f.type, f.offset, j.size == 0) | none => none
    | none => none
  | _ => none
theorem FI.of {s ft : TypeId} {i off : Nat} (h : finfo P s i = some (ft, off, false)) : FI P s i ft off := by
  unfold finfo at h
  split at h
  · rename_i fs hu
    split at h
    · rename_i f hf
      split at h
      · rename_i j hj
        simp only [Option.some.injEq, Prod.mk.injEq] at h
        obtain ⟨rfl, rfl, hz⟩ := h
        exact ⟨⟨fs, f, hu, hf, rfl, rfl, j, hj, by simpa using hz⟩⟩
      · cases h
    · cases h
  · cases h
theorem OpJ.fieldAddr {i off b o : Nat} {ft : TypeId} (F : FI P t i ft off) (hx : E.ev x = some (.pointer (some ⟨b, o, none⟩))) (h : K (.pointer (some ⟨b, o + off, none⟩)) L) : OpJ P β E L ⟨d, .fieldAddr t x i, ty, pos, af, g⟩ K :=
  OpJ.same (fun a w ha _ => by
    obtain ⟨fs, f, hu, hf, rfl, rfl, j, hj, hz⟩ := F.fld
    simp [execOp, ha.ev hx, Instr.fieldAt, Instr.sureAddr, run_underlying hu, hf, fieldPlace, sizeOf, typeInfo, hj, hz, Addr.add_eq]) h
theorem OpJ.fieldA {i off n : Nat} {ft : TypeId} {cs : List Value} (F : FI P t i ft off) (T : TI P ft true n) (hx : E.ev x = some (.agg ⟨cs⟩)) (h : K (.agg ⟨(cs.drop off).take n⟩) L) : OpJ P β E L ⟨d, .field t x i, ty, pos, af, g⟩ K :=
  OpJ.same (fun a w ha _ => by
    obtain ⟨fs, f, hu, hf, rfl, rfl, j, hj, hz⟩ := F.fld
    simp only [execOp, ha.ev hx, Instr.field]
    simp [run_underlying hu, hf, part, T.run_isAgg, T.run_size, asAgg]
    skip) h
theorem OpJ.field1 {i off n : Nat} {ft : TypeId} {cs : List Value} {v : Value} (F : FI P t i ft off) (T : TI P ft false n) (hx : E.ev x = some (.agg ⟨cs⟩)) (hv : cs[off]? = some v) (h : K v L) : OpJ P β E L ⟨d, .field t x i, ty, pos, af, g⟩ K :=
  OpJ.same (fun a w ha _ => by
    obtain ⟨fs, f, hu, hf, rfl, rfl, j, hj, hz⟩ := F.fld
    simp [execOp, ha.ev hx, Instr.field, run_underlying hu, hf, part, T.run_isAgg, asAgg, hv]) h

class SI (P : Program) (t : TypeId) (e : outParam TypeId) (n : outParam Nat) : Prop where
  under : P.underlying t = some (.slice e)
  size : ∃ i, P.info? e = some i ∧ i.size = n
theorem SI.run_size {e : TypeId} {n : Nat} (S : SI P t e n) (w : World) : (sizeOf e).run P w = .ok n w := by
  obtain ⟨i, hi, rfl⟩ := S.size
  simp [sizeOf, typeInfo, hi]
theorem OpJ.len {e : TypeId} {n l c : Nat} {oa : Option Addr} (S : SI P t e n) (hx : E.ev x = some (.slice oa l c)) (h : K (.int .i64 (l : Int)) L) : OpJ P β E L ⟨d, .call ⟨.builtin .len, #[x], #[t]⟩, ty, pos, af, g⟩ K :=
  OpJ.same (fun a w ha _ => by simp [execOp, resolve, invoke, builtin, Builtin.len_, ha.ev hx, run_underlying S.under, goInt]) h
theorem OpJ.lenS {s : ByteArray} (ht : P.underlying t = some .string) (hx : E.ev x = some (.string s)) (h : K (.int .i64 (s.size : Int)) L) : OpJ P β E L ⟨d, .call ⟨.builtin .len, #[x], #[t]⟩, ty, pos, af, g⟩ K :=
  OpJ.same (fun a w ha _ => by simp [execOp, resolve, invoke, builtin, Builtin.len_, ha.ev hx, run_underlying ht, goInt]) h
theorem OpJ.indexAddr {e : TypeId} {n l c b o : Nat} {k : IntKind} {i : Int} (S : SI P t e n) (hx : E.ev x = some (.slice (some ⟨b, o, none⟩) l c)) (hy : E.ev y = some (.int k i)) (hi : 0 ≤ i ∧ i < (l : Int))
    (h : K (.pointer (some ⟨b, o + i.toNat * n, none⟩)) L) : OpJ P β E L ⟨d, .indexAddr t x y, ty, pos, af, g⟩ K :=
  OpJ.same (fun a w ha _ => by
    simp only [execOp, ha.ev hx, ha.ev hy, Instr.indexAt, asIntOf]
    simp [run_underlying S.under, S.run_size, hi.1, hi.2, Addr.add_eq]) h
theorem OpJ.indexS {k : IntKind} {i : Int} {s : ByteArray} {u : UInt8} (ht : P.underlying t = some .string) (hx : E.ev x = some (.string s)) (hy : E.ev y = some (.int k i)) (h0 : 0 ≤ i) (hu : s[i.toNat]? = some u) (h : K (.int .u8 (u.toNat : Int)) L) : OpJ P β E L ⟨d, .index t x y, ty, pos, af, g⟩ K :=
  OpJ.same (fun a w ha _ => by
    simp only [execOp, ha.ev hx, ha.ev hy, Instr.index, asIntOf]
    simp [run_underlying ht, h0, hu]) h
end

class CI (P : Program) (f : FuncId) : Prop where
  fn : ∃ fn, P.funcs[f]? = some fn ∧ (fn.name == "runtime.NumGoroutine") = false ∧ fn.body.isNone = false
theorem CI.of {f : FuncId} (h : (P.funcs[f]?).map (fun fn => (fn.name == "runtime.NumGoroutine", fn.body.isNone)) = some (false, false)) : CI P f := by
  cases hf : P.funcs[f]? with
  | none => simp [hf] at h
  | some fn => simp only [hf, Option.map_some, Option.some.injEq, Prod.mk.injEq] at h; exact ⟨fn, hf, h.1, h.2⟩
inductive Takes : List HP → List HP → List HP → Prop
  | nil {L : List HP} : Takes L [] L
  | cons {L L1 F As : List HP} {A : HP} : Pick L A L1 → Takes L1 As F → Takes L (A :: As) F
theorem Takes.star {L As F : List HP} (t : Takes L As F) {h : Hp} (hs : stars L h) : SL.star (stars As) (stars F) h := by
  induction t generalizing h with
  | nil => exact ⟨fun _ => none, h, fun _ => .inl rfl, (Hp.add_none fun _ => rfl).symm, fun _ => rfl, hs⟩
  | cons p _ ih => exact star_assoc (star_mono (fun _ => id) (fun _ hs => ih hs) (p.star hs))
theorem OpJ.call {f : FuncId} {x : Operand} {xs : List Operand} {ats : Array TypeId} {vs first cap : List Value} {As F : List HP} {Q : Value → HP} (C : CI P f) (hx : E.ev x = some (.func (.func f) ⟨first⟩ ⟨cap⟩)) (hxs : E.evs xs = some vs)
    (hc : AC P f ⟨first ++ vs ++ cap⟩ (stars As) Q) (tk : Takes L As F) (h : ∀ r, K r (Q r :: F)) : OpJ P β E L ⟨d, .call ⟨.value x, ⟨xs⟩, ats⟩, ty, pos, af, g⟩ K := fun a w ha hs next Q' hn => by
  obtain ⟨fn, hf, hname, hbody⟩ := C.fn
  have hargs : Array.map a.eval ⟨xs⟩ = ⟨vs⟩ := by rw [List.map_toArray, ha.evs hxs]
  have hrun : (execOp a.eval ⟨d, .call ⟨.value x, ⟨xs⟩, ats⟩, ty, pos, af, g⟩).run P w = .ok (.enter f ⟨first ++ vs ++ cap⟩) w := by
    have hname' : ¬ fn.name = "runtime.NumGoroutine" := by simpa using hname
    have hbody' : ¬ fn.body = none := fun e => by simp [e] at hbody
    simp [execOp, resolve, ha.ev hx, Deferred.ofValue, hargs, invoke, callFunc, hf, hname', hbody']
  unfold Oper.wp
  rw [hrun]
  simp only [Oper.upon]
  refine (hc.frame (Has.mono hs fun _ => tk.star)).mono ?_
  rintro e w' ⟨r, rfl, hs'⟩
  exact hn r (Q r :: F) w' (h r) hs'
end
end Go.SL

namespace Go.SL
open Go

def Ret (r0 : Value) (Bs : List HP) : Value → HP := fun r => lift (r = r0) (stars Bs)
def Outs {α : Type} (φ : α → Prop) (R : α → Value) (Bs : α → List HP) : Value → HP := fun r => hex fun x => lift (φ x ∧ r = R x) (stars (Bs x))

theorem stars_append {A B : List HP} {h : Hp} (hs : star (stars A) (stars B) h) : stars (A ++ B) h := by
  induction A generalizing h with
  | nil =>
    obtain ⟨h1, h2, _, rfl, ha, hb⟩ := hs
    rw [Hp.add_none ha]; exact hb
  | cons C A ih => exact star_mono (fun _ => id) (fun _ h => ih h) (star_assoc' hs)

section
variable {P : Program} {β : Base} {n : Nat} {arr : Array Oper} {os : List Oper} {E : Env} {L L' M F As : List HP} {K : Env → List HP → Prop} {Q : Po}

theorem RunL.mapL (h : ∀ w, Sat β L w → Sat β L' w) (r : RunL P β n arr os E L' K) : RunL P β n arr os E L K := fun a w ha hs Q hQ => r a w ha (h w hs) Q hQ
theorem RunL.hex {α : Type} {A : α → HP} (h : ∀ x, RunL P β n arr os E (A x :: L) K) : RunL P β n arr os E (SL.hex A :: L) K := fun a w ha hs Q hQ => by
  obtain ⟨⟨hp, ⟨h1, h2, hd, rfl, ⟨x, hx⟩, hb⟩, hsub, hown⟩, hr⟩ := hs
  exact h x a w ha ⟨⟨_, ⟨h1, h2, hd, rfl, hx, hb⟩, hsub, hown⟩, hr⟩ Q hQ
theorem RunL.lift {p : Prop} {A : HP} (h : p → RunL P β n arr os E (A :: L) K) : RunL P β n arr os E (SL.lift p A :: L) K := fun a w ha hs Q hQ => by
  obtain ⟨⟨hp, ⟨h1, h2, hd, rfl, ⟨hpp, hx⟩, hb⟩, hsub, hown⟩, hr⟩ := hs
  exact h hpp a w ha ⟨⟨_, ⟨h1, h2, hd, rfl, hx, hb⟩, hsub, hown⟩, hr⟩ Q hQ
theorem RunL.flat (h : RunL P β n arr os E (As ++ L) K) : RunL P β n arr os E (stars As :: L) K :=
  RunL.mapL (fun w hs => Has.mono hs fun _ => stars_append) h

theorem Run.mapL {c : Code} (h : ∀ w, Sat β L w → Sat β L' w) (r : Run P β n c E L' Q) : Run P β n c E L Q := fun a w ha hs => r a w ha (h w hs)
theorem Run.hex {c : Code} {α : Type} {A : α → HP} (h : ∀ x, Run P β n c E (A x :: L) Q) : Run P β n c E (SL.hex A :: L) Q := fun a w ha hs => by
  obtain ⟨⟨hp, ⟨h1, h2, hd, rfl, ⟨x, hx⟩, hb⟩, hsub, hown⟩, hr⟩ := hs
  exact h x a w ha ⟨⟨_, ⟨h1, h2, hd, rfl, hx, hb⟩, hsub, hown⟩, hr⟩
theorem Run.lift {c : Code} {p : Prop} {A : HP} (h : p → Run P β n c E (A :: L) Q) : Run P β n c E (SL.lift p A :: L) Q := fun a w ha hs => by
  obtain ⟨⟨hp, ⟨h1, h2, hd, rfl, ⟨hpp, hx⟩, hb⟩, hsub, hown⟩, hr⟩ := hs
  exact h hpp a w ha ⟨⟨_, ⟨h1, h2, hd, rfl, hx, hb⟩, hsub, hown⟩, hr⟩

section
variable {d : Option Tmp} {ty : TypeId} {pos : String} {af : Array Edge} {g : Option (Nat × Bool)}
theorem RunL.call {f : FuncId} {x : Operand} {xs : List Operand} {ats : Array TypeId} {vs first cap : List Value} {r0 : Value} {Bs : List HP} (C : CI P f) (hd : dstOk n d = true) (hx : E.ev x = some (.func (.func f) ⟨first⟩ ⟨cap⟩)) (hxs : E.evs xs = some vs)
    (hc : AC P f ⟨first ++ vs ++ cap⟩ (stars As) (Ret r0 Bs)) (tk : Takes L As F) (h : RunL P β n arr os (E.put d r0) (Bs ++ F) K) : RunL P β n arr (⟨d, .call ⟨.value x, ⟨xs⟩, ats⟩, ty, pos, af, none⟩ :: os) E L K :=
  RunL.op hd rfl (OpJ.call C hx hxs hc tk fun r => RunL.lift fun e => RunL.flat (by subst e; exact h))
theorem RunL.callX {α : Type} {f : FuncId} {x : Operand} {xs : List Operand} {ats : Array TypeId} {vs first cap : List Value} {φ : α → Prop} {R : α → Value} {Bs : α → List HP} (C : CI P f) (hd : dstOk n d = true) (hx : E.ev x = some (.func (.func f) ⟨first⟩ ⟨cap⟩)) (hxs : E.evs xs = some vs)
    (hc : AC P f ⟨first ++ vs ++ cap⟩ (stars As) (Outs φ R Bs)) (tk : Takes L As F) (h : ∀ x, φ x → RunL P β n arr os (E.put d (R x)) (Bs x ++ F) K) : RunL P β n arr (⟨d, .call ⟨.value x, ⟨xs⟩, ats⟩, ty, pos, af, none⟩ :: os) E L K :=
  RunL.op hd rfl (OpJ.call C hx hxs hc tk fun r => RunL.hex fun x => RunL.lift fun e => RunL.flat (by rw [e.2]; exact h x e.1))
end

section
variable {d : Option Tmp} {ty : TypeId} {pos : String} {af : Array Edge}
theorem RunL.callG {j : Nat} {gb : Bool} {gd : Tmp} {f : FuncId} {x : Operand} {xs : List Operand} {ats : Array TypeId} {vs first cap : List Value} {r0 : Value} {Bs : List HP} (C : CI P f) (hd : dstOk n d = true) (hj : (arr[j]?).bind (·.dst) = some gd) (hgb : E.get gd = some (.bool gb))
    (hx : E.ev x = some (.func (.func f) ⟨first⟩ ⟨cap⟩)) (hxs : E.evs xs = some vs)
    (hc : AC P f ⟨first ++ vs ++ cap⟩ (stars As) (Ret r0 Bs)) (tk : Takes L As F) (h : RunL P β n arr os (E.put d r0) (Bs ++ F) K) : RunL P β n arr (⟨d, .call ⟨.value x, ⟨xs⟩, ats⟩, ty, pos, af, some (j, gb)⟩ :: os) E L K :=
  RunL.yes hd rfl hj hgb (OpJ.call C hx hxs hc tk fun r => RunL.lift fun e => RunL.flat (by subst e; exact h))
end

theorem RunL.undef {o : Oper} {j : Nat} {b : Bool} {d : Tmp} (hd : dstOk n o.dst = true) (hg : o.guard = some (j, b)) (hj : (arr[j]?).bind (·.dst) = some d) (hb : E.get d = some Go.undef)
    (h : RunL P β n arr os (E.put o.dst Go.undef) L K) : RunL P β n arr (o :: os) E L K := by
  intro a w ha hs Q hQ
  have hw : Region.wanted o (yielded arr a.tmps) = false := by
    have h := ha.env d _ hb
    have hy : yielded arr a.tmps j = none := by
      unfold yielded
      rw [hj]
      simp only [Option.bind_some]
      rw [Array.getD_eq_getD_getElem?] at h
      cases hd : a.tmps[d]? with
      | none => rfl
      | some v => rw [hd] at h; simp at h; subst h; rfl
    simp [Region.wanted, hg, hy]
  simp only [wpSeq, hw]
  exact h (a.put o.dst Go.undef) w (ha.put (dstOk_spec hd) Go.undef) hs Q hQ

theorem RunL.split {t : Nat} {b : Bool} (h : E.get t = some (.bool b)) (ht : b = true → RunL P β n arr os ((t, .bool true) :: E) L K) (hf : b = false → RunL P β n arr os ((t, .bool false) :: E) L K) : RunL P β n arr os E L K := by
  have hsub : ∀ c, b = c → ∀ s v, Env.get ((t, .bool c) :: E) s = some v → E.get s = some v := by
    rintro c rfl s v hs
    rw [Env.get_cons] at hs
    split at hs
    · rename_i e; subst e; rw [h]; exact hs
    · exact hs
  cases hb : b
  · exact fun a w ha hs Q hQ => hf hb a w (ha.sub (hsub _ hb)) hs Q hQ
  · exact fun a w ha hs Q hQ => ht hb a w (ha.sub (hsub _ hb)) hs Q hQ
theorem RunL.splitP {t : Nat} {p : Prop} [Decidable p] (h : E.get t = some (.bool (decide p))) (ht : p → RunL P β n arr os ((t, .bool true) :: E) L K) (hf : ¬ p → RunL P β n arr os ((t, .bool false) :: E) L K) : RunL P β n arr os E L K :=
  RunL.split h (fun e => ht (of_decide_eq_true e)) (fun e => hf (of_decide_eq_false e))
theorem RunL.cut {ks : List Nat} {t : Nat} {v : Value} {Ek : Env} (hk : Keep ks E Ek) (h1 : RunL P β n arr os E L fun E' L' => Keep (t :: ks) E' ((t, v) :: Ek) ∧ L' = L) (h2 : K ((t, v) :: Ek) L) : RunL P β n arr os E L K :=
  fun a w ha hs Q hQ => h1 a w ha hs Q fun a' w' E' L' ⟨hK, hL⟩ ha' hs' => hQ a' w' _ _ h2 (ha'.sub hK.sub) (hL ▸ hs')
theorem RunL.set {t : Nat} {u v : Value} {E' : Env} (e : u = v) (h : RunL P β n arr os ((t, v) :: E') L K) : RunL P β n arr os ((t, u) :: E') L K := by subst e; exact h

section
variable {x y : Operand} {t t' : TypeId} {K : Value → List HP → Prop} {d : Option Tmp} {ty : TypeId} {pos : String} {af : Array Edge} {g : Option (Nat × Bool)}
theorem OpJ.loadF {n b off : Nat} {cs : List Value} {bt : TypeId} {v : Value} (T : TI P t false n) (hx : E.ev x = some (.pointer (some ⟨b, off, none⟩))) (p : Pick L (pt b (blk cs bt)) M) (hv : cs[off]? = some v) (h : K v L) : OpJ P β E L ⟨d, .load t x, ty, pos, af, g⟩ K :=
  OpJ.load1 T hx p (Rd.one hv) h
theorem OpJ.loadW {n b : Nat} {cs : List Value} {bt : TypeId} (T : TI P t true n) (hx : E.ev x = some (.pointer (some ⟨b, 0, none⟩))) (p : Pick L (pt b (blk cs bt)) M) (hn : cs.length = n) (h : K (.agg ⟨cs⟩) L) : OpJ P β E L ⟨d, .load t x, ty, pos, af, g⟩ K :=
  OpJ.loadA T hx p Rd.whole hn h
theorem OpJ.loadP {n b off : Nat} {cs : List Value} {bt : TypeId} (T : TI P t true n) (hx : E.ev x = some (.pointer (some ⟨b, off, none⟩))) (p : Pick L (pt b (blk cs bt)) M) (hn : off + n ≤ cs.length) (h : K (.agg ⟨(cs.drop off).take n⟩) L) : OpJ P β E L ⟨d, .load t x, ty, pos, af, g⟩ K :=
  OpJ.loadA T hx p Rd.part (by simp; omega) h
end

inductive ResV (P : Program) (E : Env) (L : List HP) : List ResultVar → List Value → Prop
  | nil : ResV P E L [] []
  | tmp {t : Tmp} {v : Value} {rs : List ResultVar} {vs : List Value} : E.get t = some v → ResV P E L rs vs → ResV P E L (.tmp t :: rs) (v :: vs)
  | cellA {a : Tmp} {t bt : TypeId} {n b : Nat} {cs : List Value} {M : List HP} {rs : List ResultVar} {vs : List Value} : TI P t true n → E.get a = some (.pointer (some ⟨b, 0, none⟩)) → Pick L (pt b (blk cs bt)) M → cs.length = n →
      ResV P E L rs vs → ResV P E L (.cell a t :: rs) (.agg ⟨cs⟩ :: vs)
  | cell1 {a : Tmp} {t bt : TypeId} {n b : Nat} {v : Value} {M : List HP} {rs : List ResultVar} {vs : List Value} : TI P t false n → E.get a = some (.pointer (some ⟨b, 0, none⟩)) → Pick L (pt b (blk [v] bt)) M →
      ResV P E L rs vs → ResV P E L (.cell a t :: rs) (v :: vs)
def tup : List Value → Value
  | [v] => v
  | vs => .tuple ⟨vs⟩

def resOne (P : Program) (tmps : Array Value) : ResultVar → Sem Value
  | .tmp t => pure (tmps.getD t Go.undef)
  | .cell a t => do loadVar t (← asAddr (tmps.getD a Go.undef))
theorem ResV.one {rs : List ResultVar} {vs : List Value} (r : ResV P E L rs vs) {a : Act} {w : World} (ha : EOk E a) (hs : Sat β L w) : (rs.mapM (resOne P a.tmps)).run P w = .ok vs w := by
  induction r with
  | nil => rfl
  | tmp h _ ih => simp [List.mapM_cons, resOne, ha _ _ h, ih]
  | cellA T h p hn _ ih =>
    have hl := T.loadAgg hn (hs.rd p Rd.whole)
    have he := ha _ _ h
    simp only [List.mapM_cons, resOne, he, asAddr]
    simp [hl, ih]
  | cell1 T h p _ ih =>
    have hc := hs.rd p Rd.whole 0 _ rfl
    rw [Addr.add_zero] at hc
    have hl := T.load1 hc
    have he := ha _ _ h
    simp only [List.mapM_cons, resOne, he, asAddr]
    simp [hl, ih]
theorem ResV.run {fn : Func} {vs : List Value} (r : ResV P E L fn.results.toList vs) {a : Act} {w : World} (ha : EOk E a) (hs : Sat β L w) : (results fn a.tmps).run P w = .ok (tup vs) w := by
  have h1 := r.one ha hs
  have h2 : results fn a.tmps = (fn.results.toList.mapM (resOne P a.tmps)) >>= fun vs => pure (tup vs) := by
    unfold results
    rw [Array.mapM_eq_mapM_toList]
    simp only [bind_assoc, map_eq_pure_bind, pure_bind]
    have hf : (fun (x : ResultVar) => match x with | .tmp t => (pure (a.tmps.getD t Go.undef) : Sem Value) | .cell b t => do loadVar t (← asAddr (a.tmps.getD b Go.undef))) = resOne P a.tmps := by
      funext x; cases x <;> rfl
    rw [← hf]
    congr 1
    funext vs
    match vs with
    | [] => simp [tup]
    | [v] => simp [tup]
    | u :: v :: vs => simp [tup]
  rw [h2, Sem.run_bind, h1]
  rfl

theorem ret_one {fn : Func} {vs : List Value} {r0 : Value} {Bs : List HP} (r : ResV P E L fn.results.toList vs) (hr : tup vs = r0) (gv : Gives L Bs) : bodyPo P β n fn (Ret r0 Bs) .ret E L :=
  fun a w ha hs => ⟨tup vs, r.run ha.env hs, (hs.gives gv).mono fun _ h => ⟨hr, h⟩⟩
theorem ret_out {α : Type} {fn : Func} {vs : List Value} {φ : α → Prop} {R : α → Value} {Bs : α → List HP} (x : α) (r : ResV P E L fn.results.toList vs) (hφ : φ x) (hr : tup vs = R x) (gv : Gives L (Bs x)) : bodyPo P β n fn (Outs φ R Bs) .ret E L :=
  fun a w ha hs => ⟨tup vs, r.run ha.env hs, (hs.gives gv).mono fun _ h => ⟨x, ⟨hφ, hr⟩, h⟩⟩

def Env.ofArgs : Nat → List Value → Env
  | _, [] => []
  | k, v :: vs => (k, v) :: Env.ofArgs (k + 1) vs
theorem Env.ofArgs_get : ∀ (vs : List Value) (k t : Nat) (v : Value), (Env.ofArgs k vs).get t = some v → k ≤ t ∧ vs[t - k]? = some v
  | [], _, _, _, h => by cases h
  | u :: vs, k, t, v, h => by
    rw [Env.ofArgs, Env.get_cons] at h
    by_cases hk : k = t
    · subst hk; simpa using h
    · rw [if_neg hk] at h
      obtain ⟨h1, h2⟩ := Env.ofArgs_get vs (k + 1) t v h
      refine ⟨by omega, ?_⟩
      rw [show t - k = (t - (k + 1)) + 1 from by omega]
      simpa using h2
theorem AC.go {f : FuncId} {fn : Func} {c : Code} {vs : List Value} {Q : Value → HP} (hf : P.funcs[f]? = some fn) (hb : fn.body = some c) (hn : vs.length ≤ fn.ntmps)
    (h : ∀ β, Run P β fn.ntmps c (Env.ofArgs 0 vs) L (bodyPo P β fn.ntmps fn Q)) (hfit : fitC false c = true := by kernel_rfl) : AC P f ⟨vs⟩ (stars L) Q :=
  AC.enter hf hb hfit (fun t v ht => by
    obtain ⟨_, h2⟩ := Env.ofArgs_get vs 0 t v ht
    have hl : t < vs.length := by have := (List.getElem?_eq_some_iff.1 h2).1; omega
    rw [Array.getD_eq_getD_getElem?, Array.getElem?_append_left (by simpa using hl)]
    simpa using congrArg (·.getD Go.undef) h2) (by simpa using hn) L (fun _ h => h) h
end
end Go.SL

namespace Go.SL
open Go

theorem SI.of {P : Program} {t e : TypeId} {n : Nat} (h : P.underlying t = some (.slice e)) (h2 : (P.info? e).map (·.size) = some n) : SI P t e n := by
  refine ⟨h, ?_⟩
  cases hi : P.info? e with
  | none => simp [hi] at h2
  | some i => exact ⟨i, rfl, by simpa [hi] using h2⟩

def bldL (places : List (Nat × Nat)) : List Value → List (Nat × Value) → Option (List Value)
  | cs, [] => some cs
  | cs, (i, v) :: rest =>
    match places[i]? with
    | none => none
    | some (off, size) => if v.cells.toList.length = size ∧ off + size ≤ cs.length then bldL places (cs.take off ++ v.cells.toList ++ cs.drop (off + size)) rest else none

theorem foldl_set (off : Nat) : ∀ (vs : List Value) (k : Nat) (cs : Array Value), off + k + vs.length ≤ cs.size →
    (vs.zipIdx k).foldl (fun cs (x : Value × Nat) => cs.setIfInBounds (off + x.2) x.1) cs = ⟨cs.toList.take (off + k) ++ vs ++ cs.toList.drop (off + k + vs.length)⟩
  | [], k, cs, _ => by
    cases cs; simp
  | v :: vs, k, cs, h => by
    simp only [List.zipIdx_cons, List.foldl_cons]
    rw [foldl_set off vs (k + 1) (cs.setIfInBounds (off + k) v) (by simp at h ⊢; omega)]
    congr 1
    simp only [List.length_cons] at h
    have hl : off + k < cs.toList.length := by simp; omega
    simp only [Array.toList_setIfInBounds]
    rw [List.set_eq_take_append_cons_drop, if_pos hl]
    rw [show off + (k + 1) = off + k + 1 from by omega]
    have hlen : (cs.toList.take (off + k)).length = off + k := by simp; omega
    rw [List.take_append, List.drop_append, hlen]
    rw [List.take_of_length_le (by omega)]
    rw [show off + k + 1 - (off + k) = 1 from by omega]
    rw [List.drop_eq_nil_of_le (by omega : (cs.toList.take (off + k)).length ≤ off + k + 1 + vs.length)]
    rw [show off + k + 1 + vs.length - (off + k) = vs.length + 1 from by omega]
    simp only [List.take_succ_cons, List.take_zero, List.drop_succ_cons, List.nil_append, List.drop_drop, List.length_cons]
    rw [show off + k + 1 + vs.length = off + k + (vs.length + 1) from by omega]
    simp

theorem fill_bldL (places : List (Nat × Nat)) : ∀ (parts : List (Nat × Value)) (cs : List Value) (r : List Value), bldL places cs parts = some r → Instr.fill (fun i => places[i]?) ⟨cs⟩ parts = some ⟨r⟩
  | [], cs, r, h => by simp [bldL] at h; simp [Instr.fill, h]
  | (i, v) :: rest, cs, r, h => by
    simp only [bldL] at h
    simp only [Instr.fill]
    cases hp : places[i]? with
    | none => simp [hp] at h
    | some x =>
      obtain ⟨off, size⟩ := x
      simp only [hp] at h
      split at h
      · rename_i hc
        obtain ⟨hsz, hle⟩ := hc
        have h1 : v.cells.size = size := by simpa using hsz
        have e := foldl_set off v.cells.toList 0 ⟨cs⟩ (by simpa [h1] using hle)
        have h2 : ¬ (v.cells.size ≠ size ∨ (⟨cs⟩ : Array Value).size < off + v.cells.size) := by simp [h1]; omega
        have h3 : v.cells.zipIdx.foldl (fun (cs : Array Value) (x : Value × Nat) => cs.setIfInBounds (off + x.2) x.1) (⟨cs⟩ : Array Value) = (⟨cs.take off ++ v.cells.toList ++ cs.drop (off + size)⟩ : Array Value) := by
          rw [← Array.foldl_toList]
          simpa [h1] using e
        simp only [h1, List.size_toArray]
        have h4 : (decide (size ≠ size) || decide (off + size > cs.length)) = false := by simp; omega
        simp only [h4, Bool.false_eq_true, if_false]
        exact (by
          have := fill_bldL places rest (cs.take off ++ v.cells.toList ++ cs.drop (off + size)) r h
          rw [← h3] at this
          exact this)
      · cases h

class BI (P : Program) (t : TypeId) (zs : outParam (List Value)) (places : outParam (List (Nat × Nat))) : Prop where
  zero : ZI P t zs
  under : ∃ fs, P.underlying t = some (.struct fs) ∧ fs.toList.mapM (fun f => (P.info? f.type).map fun i => (f.offset, i.size)) = some places
def binfo (P : Program) (t : TypeId) : Option (List (Nat × Nat)) :=
  match P.underlying t with
  | some (.struct fs) => fs.toList.mapM (fun f => (P.info? f.type).map fun i => (f.offset, i.size))
  | _ => none
theorem BI.of {P : Program} {t : TypeId} {zs : List Value} {places : List (Nat × Nat)} (h : ((P.info? t).bind (·.zero)).map (·.cells.toList) = some zs) (h2 : binfo P t = some places) : BI P t zs places := by
  refine ⟨.of h, ?_⟩
  unfold binfo at h2
  split at h2
  · rename_i fs hu; exact ⟨fs, hu, h2⟩
  · cases h2

def Env.evp (E : Env) : List (Nat × Operand) → Option (List (Nat × Value))
  | [] => some []
  | (i, x) :: xs => match E.ev x, Env.evp E xs with | some v, some vs => some ((i, v) :: vs) | _, _ => none
theorem EOk.evp {E : Env} {a : Act} (h : EOk E a) : ∀ {xs : List (Nat × Operand)} {vs : List (Nat × Value)}, E.evp xs = some vs → xs.map (fun (i, x) => (i, a.eval x)) = vs
  | [], vs, e => by simp [Env.evp] at e; simp [e]
  | (i, x) :: xs, vs, e => by
    simp only [Env.evp] at e
    split at e
    · rename_i v vs' hv hvs
      simp only [Option.some.injEq] at e
      subst e
      simp [h.ev hv, EOk.evp h hvs]
    · cases e

section
variable {P : Program} {β : Base} {E : Env} {L L' M : List HP} {K : Value → List HP → Prop} {d : Option Tmp} {ty : TypeId} {pos : String} {af : Array Edge} {g : Option (Nat × Bool)}

theorem run_mapM_places {fs : List Field} {places : List (Nat × Nat)} (w : World) (h : fs.mapM (fun f => (P.info? f.type).map fun i => (f.offset, i.size)) = some places) :
    (fs.mapM fun f => do pure (f.offset, ← sizeOf f.type) : Sem (List (Nat × Nat))).run P w = .ok places w := by
  induction fs generalizing places with
  | nil => simp at h; subst h; rfl
  | cons f fs ih =>
    simp only [List.mapM_cons] at h
    cases hi : P.info? f.type with
    | none => simp [hi] at h
    | some i =>
      simp only [hi, Option.map_some, Option.bind_eq_bind, Option.bind_some] at h
      cases hr : fs.mapM (fun f => (P.info? f.type).map fun i => (f.offset, i.size)) with
      | none => simp [hr] at h
      | some ps =>
        simp only [hr, Option.bind_some, Option.pure_def, Option.some.injEq] at h
        subst h
        have := ih hr
        simp only [List.mapM_cons]
        simp [sizeOf, typeInfo, hi] at this ⊢
        rw [this]
        rfl

theorem run_build {t : TypeId} {zs : List Value} {places : List (Nat × Nat)} {xs : List (Nat × Operand)} {ps : List (Nat × Value)} (B : BI P t zs places) (hx : E.evp xs = some ps) {cs : List Value} (hcs : bldL places zs ps = some cs) {a : Act} {w : World} (ha : EOk E a) :
    (execOp a.eval ⟨d, .build t ⟨xs⟩, ty, pos, af, g⟩).run P w = .ok (.value (.agg ⟨cs⟩)) w := by
  obtain ⟨i, z, hi, hz, hzs⟩ := B.zero.zero
  obtain ⟨fs, hu, hp⟩ := B.under
  have hx' : Array.map (fun (p : Nat × Operand) => (p.1, a.eval p.2)) ⟨xs⟩ = ⟨ps⟩ := by rw [List.map_toArray]; congr 1; exact ha.evp hx
  have hm := run_mapM_places (P := P) w hp
  have hzc : z.cells = ⟨zs⟩ := by rw [← hzs]
  have hf := fill_bldL places ps zs cs hcs
  simp only [execOp, Instr.build]
  have hm2 : (fs.mapM fun f => do pure (f.offset, ← sizeOf f.type) : Sem (Array (Nat × Nat))).run P w = .ok places.toArray w := by
    rw [Array.mapM_eq_mapM_toList, Sem.run_map, hm]
    rfl
  simp only [Sem.run_bind, zeroValue, typeInfo, run_program, hi, hz, Sem.run_pure, Result.andThen_ok, run_underlying hu, hm2]
  have hgo : (fun (i : Nat) => places.toArray[i]?) = fun (i : Nat) => places[i]? := by funext i; simp
  simp only [hx', hgo, hzc, hf]
  simp
theorem OpJ.build {t : TypeId} {zs : List Value} {places : List (Nat × Nat)} {xs : List (Nat × Operand)} {ps : List (Nat × Value)} (B : BI P t zs places) (hx : E.evp xs = some ps) (hs : (bldL places zs ps).isSome = true) (hb : ∀ cs, bldL places zs ps = some cs → K (.agg ⟨cs⟩) L) :
    OpJ P β E L ⟨d, .build t ⟨xs⟩, ty, pos, af, g⟩ K := by
  obtain ⟨cs, hcs⟩ := Option.isSome_iff_exists.1 hs
  exact OpJ.same (v := .agg ⟨cs⟩) (fun a w ha _ => run_build B hx hcs ha) (hb cs hcs)

def bldA : List Value → List (Nat × Value) → Option (List Value)
  | cs, [] => some cs
  | cs, (i, v) :: rest => if v.cells.toList.length = 1 ∧ i < cs.length then bldA (cs.take i ++ v.cells.toList ++ cs.drop (i + 1)) rest else none
theorem fill_bldA : ∀ (parts : List (Nat × Value)) (cs : List Value) (r : List Value), bldA cs parts = some r → Instr.fill (fun i => some (i * 1, 1)) ⟨cs⟩ parts = some ⟨r⟩
  | [], cs, r, h => by simp [bldA] at h; simp [Instr.fill, h]
  | (i, v) :: rest, cs, r, h => by
    simp only [bldA] at h
    simp only [Instr.fill]
    split at h
    · rename_i hc
      obtain ⟨hsz, hle⟩ := hc
      have h1 : v.cells.size = 1 := by simpa using hsz
      have e := foldl_set i v.cells.toList 0 ⟨cs⟩ (by simp [h1]; omega)
      have h3 : v.cells.zipIdx.foldl (fun (cs : Array Value) (x : Value × Nat) => cs.setIfInBounds (i * 1 + x.2) x.1) (⟨cs⟩ : Array Value) = (⟨cs.take i ++ v.cells.toList ++ cs.drop (i + 1)⟩ : Array Value) := by
        rw [← Array.foldl_toList]
        simpa [h1] using e
      simp only [h1, List.size_toArray]
      have h4 : (decide ((1 : Nat) ≠ 1) || decide (i * 1 + 1 > cs.length)) = false := by simp; omega
      simp only [h4, Bool.false_eq_true, if_false]
      exact (by
        have := fill_bldA rest (cs.take i ++ v.cells.toList ++ cs.drop (i + 1)) r h
        rw [← h3] at this
        exact this)
    · cases h
class BAI (P : Program) (t : TypeId) (zs : outParam (List Value)) : Prop where
  zero : ZI P t zs
  under : ∃ n e i, P.underlying t = some (.array n e) ∧ P.info? e = some i ∧ i.size = 1
def bainfo (P : Program) (t : TypeId) : Option Nat :=
  match P.underlying t with
  | some (.array _ e) => (P.info? e).map (·.size)
  | _ => none
theorem BAI.of {t : TypeId} {zs : List Value} (h : ((P.info? t).bind (·.zero)).map (·.cells.toList) = some zs) (h2 : bainfo P t = some 1) : BAI P t zs := by
  refine ⟨.of h, ?_⟩
  unfold bainfo at h2
  split at h2
  · rename_i n e hu
    cases hi : P.info? e with
    | none => simp [hi] at h2
    | some i => exact ⟨n, e, i, hu, hi, by simpa [hi] using h2⟩
  · cases h2
theorem run_buildArr {t : TypeId} {zs : List Value} {xs : List (Nat × Operand)} {ps : List (Nat × Value)} (B : BAI P t zs) (hx : E.evp xs = some ps) {cs : List Value} (hcs : bldA zs ps = some cs) {a : Act} {w : World} (ha : EOk E a) :
    (execOp a.eval ⟨d, .build t ⟨xs⟩, ty, pos, af, g⟩).run P w = .ok (.value (.agg ⟨cs⟩)) w := by
  obtain ⟨i, z, hi, hz, hzs⟩ := B.zero.zero
  obtain ⟨n, e, ie, hu, hie, hsz⟩ := B.under
  have hx' : Array.map (fun (p : Nat × Operand) => (p.1, a.eval p.2)) ⟨xs⟩ = ⟨ps⟩ := by rw [List.map_toArray]; congr 1; exact ha.evp hx
  have hzc : z.cells = ⟨zs⟩ := by rw [← hzs]
  have hf := fill_bldA ps zs cs hcs
  simp only [execOp, Instr.build]
  simp only [Sem.run_bind, zeroValue, typeInfo, run_program, hi, hz, Sem.run_pure, Result.andThen_ok, run_underlying hu, sizeOf, hie, hsz]
  simp only [hx', hzc, hf]
  simp
theorem OpJ.buildArr {t : TypeId} {zs : List Value} {xs : List (Nat × Operand)} {ps : List (Nat × Value)} (B : BAI P t zs) (hx : E.evp xs = some ps) (hs : (bldA zs ps).isSome = true) (hb : ∀ cs, bldA zs ps = some cs → K (.agg ⟨cs⟩) L) :
    OpJ P β E L ⟨d, .build t ⟨xs⟩, ty, pos, af, g⟩ K := by
  obtain ⟨cs, hcs⟩ := Option.isSome_iff_exists.1 hs
  exact OpJ.same (v := .agg ⟨cs⟩) (fun a w ha _ => run_buildArr B hx hcs ha) (hb cs hcs)
end
end Go.SL

namespace Go.SL
open Go

inductive Bk where | int | str | bool
  deriving DecidableEq
def Bk.of : TypeDesc → Option Bk
  | .bool => some .bool
  | .int _ => some .int
  | .string => some .str
  | _ => none
def eqCell : Bk → Value → Value → Option Bool
  | .int, .int k a, .int k' b => if k = k' then some (decide (a = b)) else none
  | .str, .string a, .string b => some (decide (a = b))
  | .bool, .bool a, .bool b => some (decide (a = b))
  | _, _, _ => none
def eqCells : List Bk → List Value → List Value → Option Bool
  | [], [], [] => some true
  | k :: ks, x :: xs, y :: ys => match eqCell k x y with
    | none => none
    | some false => some false
    | some true => eqCells ks xs ys
  | _, _, _ => none

def eqB : List Bk → List Value → List Value → Option Bool
  | [], [], [] => some true
  | k :: ks, x :: xs, y :: ys => match eqCell k x y, eqB ks xs ys with
    | some a, some b => some (a && b)
    | _, _ => none
  | _, _, _ => none
theorem eqB_cells : ∀ (ks : List Bk) (xs ys : List Value) (r : Bool), eqB ks xs ys = some r → eqCells ks xs ys = some r
  | [], [], [], r, h => h
  | [], _ :: _, _, _, h => by simp [eqB] at h
  | [], [], _ :: _, _, h => by simp [eqB] at h
  | _ :: _, [], _, _, h => by simp [eqB] at h
  | _ :: _, _ :: _, [], _, h => by simp [eqB] at h
  | k :: ks, x :: xs, y :: ys, r, h => by
    simp only [eqB] at h
    simp only [eqCells]
    cases hc : eqCell k x y with
    | none => simp [hc] at h
    | some a =>
      cases hr : eqB ks xs ys with
      | none => simp [hc, hr] at h
      | some b =>
        simp only [hc, hr, Option.some.injEq] at h
        subst h
        cases a
        · rfl
        · simpa using eqB_cells ks xs ys b hr
def eqinfo (P : Program) (t : TypeId) : Option (List Bk) :=
  match P.underlying t with
  | some (.struct fs) =>
    if fs.toList.zipIdx.all (fun (f, i) => f.name != "_" && f.offset == i) && !P.stoodInHeld t && !P.eqGuardType P.depth t then fs.toList.mapM (fun f => (P.underlying f.type).bind Bk.of) else none
  | some (.array n e) => if !P.eqGuardType P.depth t && (P.info? e).map (·.size) == some 1 then ((P.underlying e).bind Bk.of).map fun k => List.replicate n k else none
  | _ => none

section
variable {P : Program}
theorem str_beq (a b : ByteArray) : (a == b) = decide (a = b) := by
  show (a.data == b.data) = _
  rw [Bool.eq_iff_iff]
  simp only [beq_iff_eq, decide_eq_true_eq]
  constructor
  · intro h; cases a; cases b; simp only at h; rw [h]
  · rintro rfl; rfl
theorem run_equalIn_cell {d : Nat} {t : TypeId} {k : Bk} {x y : Value} {r : Bool} (w : World) (hk : (P.underlying t).bind Bk.of = some k) (he : eqCell k x y = some r) :
    (Op.equalIn (d + 1) t x y).run P w = .ok r w := by
  cases hu : P.underlying t with
  | none => simp [hu] at hk
  | some D =>
    simp only [hu, Option.bind_some] at hk
    cases D <;> simp [Bk.of] at hk <;> subst hk <;> cases x <;> simp [eqCell] at he <;> cases y <;> simp [eqCell] at he
    · subst he; simp [Op.equalIn, run_underlying hu]; rfl
    · obtain ⟨rfl, rfl⟩ := he; simp [Op.equalIn, run_underlying hu]; rfl
    · subst he; simp [Op.equalIn, run_underlying hu, str_beq]
theorem run_part_one {t : TypeId} {k : Bk} {cs : Array Value} {off : Nat} {v : Value} (w : World) (hk : (P.underlying t).bind Bk.of = some k) (hv : cs[off]? = some v) : (part t cs off).run P w = .ok v w := by
  cases hu : P.underlying t with
  | none => simp [hu] at hk
  | some D =>
    simp only [hu, Option.bind_some] at hk
    unfold part isAgg
    cases D <;> simp [Bk.of] at hk <;> simp [run_underlying hu, hv]

theorem run_eq_fields {d : Nat} {xs ys : Array Value} (w : World) : ∀ (fs : List Field) (i : Nat) (ks : List Bk) (r : Bool), (fs.zipIdx i).all (fun (f, j) => f.name != "_" && f.offset == j) = true →
    fs.mapM (fun f => (P.underlying f.type).bind Bk.of) = some ks → eqCells ks (xs.toList.drop i) (ys.toList.drop i) = some r →
    ∃ o, (forIn fs ((none, ()) : Option Bool × Unit) fun f _ => (do
      if f.name ≠ "_" then
        if !(← Op.equalIn (d + 1) f.type (← part f.type xs f.offset) (← part f.type ys f.offset)) then pure (ForInStep.done (some false, ())) else pure (ForInStep.yield (none, ()))
      else pure (ForInStep.yield (none, ())) : Sem (ForInStep (Option Bool × Unit)))).run P w = .ok o w ∧ (match o.1 with | none => true | some b => b) = r
  | [], i, ks, r, _, hm, he => by
    simp at hm; subst hm
    refine ⟨(none, ()), rfl, ?_⟩
    cases hx : xs.toList.drop i <;> cases hy : ys.toList.drop i <;> simp [hx, hy, eqCells] at he
    exact he.symm
  | f :: fs, i, ks, r, ha, hm, he => by
    simp only [List.zipIdx_cons, List.all_cons, Bool.and_eq_true, bne_iff_ne, beq_iff_eq] at ha
    obtain ⟨⟨hn, hoff⟩, hrest⟩ := ha
    simp only [List.mapM_cons] at hm
    cases hk : (P.underlying f.type).bind Bk.of with
    | none => simp [hk] at hm
    | some k =>
      cases hr : fs.mapM (fun f => (P.underlying f.type).bind Bk.of) with
      | none => simp [hk, hr] at hm
      | some ks' =>
        simp [hk, hr] at hm
        subst hm
        cases hx : xs.toList.drop i with
        | nil => simp [hx, eqCells] at he
        | cons x xs' =>
          cases hy : ys.toList.drop i with
          | nil => simp [hx, hy, eqCells] at he
          | cons y ys' =>
            have hxi : xs[i]? = some x := by
              have := congrArg (·[0]?) hx; simpa using this
            have hyi : ys[i]? = some y := by
              have := congrArg (·[0]?) hy; simpa using this
            have hx' : xs.toList.drop (i + 1) = xs' := by rw [← List.drop_drop, hx]; rfl
            have hy' : ys.toList.drop (i + 1) = ys' := by rw [← List.drop_drop, hy]; rfl
            rw [hx, hy] at he
            simp only [eqCells] at he
            rw [List.forIn_cons]
            subst hoff
            cases hc : eqCell k x y with
            | none => simp [hc] at he
            | some c =>
              have h1 := run_part_one (P := P) (off := f.offset) w hk hxi
              have h2 := run_part_one (P := P) (off := f.offset) w hk hyi
              have h3 := run_equalIn_cell (P := P) (d := d) w hk hc
              cases c with
              | false =>
                simp only [hc] at he
                refine ⟨(some false, ()), ?_, by simpa using he⟩
                simp [hn, h1, h2, h3]
              | true =>
                simp only [hc] at he
                obtain ⟨o, ho, hb⟩ := run_eq_fields (d := d) (xs := xs) (ys := ys) w fs (f.offset + 1) ks' r hrest hr (by rw [hx', hy']; exact he)
                refine ⟨o, ?_, hb⟩
                simp only [Sem.run_bind, hn, ne_eq, not_false_eq_true, if_true, h1, h2, h3, Result.andThen_ok, Bool.not_true, Bool.false_eq_true, if_false, Sem.run_pure]
                exact ho

theorem run_equal_struct {t : TypeId} {ks : List Bk} {fs : Array Field} {xs ys : List Value} {r : Bool} (w : World) (hu : P.underlying t = some (.struct fs)) (hall : fs.toList.zipIdx.all (fun (f, i) => f.name != "_" && f.offset == i) = true) (hst : P.stoodInHeld t = false)
    (hm : fs.toList.mapM (fun f => (P.underlying f.type).bind Bk.of) = some ks) (he : eqCells ks xs ys = some r) : (Op.equal t (.agg ⟨xs⟩) (.agg ⟨ys⟩)).run P w = .ok r w := by
  obtain ⟨o, ho, hb⟩ := run_eq_fields (P := P) (d := 9998) (xs := ⟨xs⟩) (ys := ⟨ys⟩) w fs.toList 0 ks r hall hm (by simpa using he)
  unfold Op.equal Op.maxDepth
  unfold Op.equalIn
  simp only [Sem.run_bind, run_underlying hu, Result.andThen_ok, run_program, hst]
  rw [← Array.forIn_toList]
  simp only [Bool.false_eq_true, if_false, Sem.run_bind, ho, Result.andThen_ok]
  rcases o with ⟨_ | b, u⟩
  · simp only at hb; subst hb; rfl
  · simp only at hb; subst hb; rfl

theorem run_eq_array {d : Nat} {e : TypeId} {k : Bk} {xs ys : List Value} (w : World) (hk : (P.underlying e).bind Bk.of = some k) : ∀ (n i : Nat) (r : Bool), eqCells (List.replicate n k) (xs.drop i) (ys.drop i) = some r →
    ∃ o, (forIn (List.range' i n 1) ((none, ()) : Option Bool × Unit) fun j _ => (do
      if !(← Op.equalIn (d + 1) e (← part e ⟨xs⟩ (j * 1)) (← part e ⟨ys⟩ (j * 1))) then pure (ForInStep.done (some false, ())) else pure (ForInStep.yield (none, ())) : Sem (ForInStep (Option Bool × Unit)))).run P w = .ok o w ∧ (match o.1 with | none => true | some b => b) = r
  | 0, i, r, he => by
    refine ⟨(none, ()), rfl, ?_⟩
    cases hx : xs.drop i <;> cases hy : ys.drop i <;> simp [hx, hy, eqCells] at he
    exact he.symm
  | n + 1, i, r, he => by
    rw [List.replicate_succ] at he
    cases hx : xs.drop i with
    | nil => simp [hx, eqCells] at he
    | cons x xs' =>
      cases hy : ys.drop i with
      | nil => simp [hx, hy, eqCells] at he
      | cons y ys' =>
        have hxi : (⟨xs⟩ : Array Value)[i * 1]? = some x := by
          have := congrArg (·[0]?) hx; simpa using this
        have hyi : (⟨ys⟩ : Array Value)[i * 1]? = some y := by
          have := congrArg (·[0]?) hy; simpa using this
        have hx' : xs.drop (i + 1) = xs' := by rw [← List.drop_drop, hx]; rfl
        have hy' : ys.drop (i + 1) = ys' := by rw [← List.drop_drop, hy]; rfl
        rw [hx, hy] at he
        simp only [eqCells] at he
        rw [List.range'_succ, List.forIn_cons]
        cases hc : eqCell k x y with
        | none => simp [hc] at he
        | some c =>
          have h1 := run_part_one (P := P) w hk hxi
          have h2 := run_part_one (P := P) w hk hyi
          have h3 := run_equalIn_cell (P := P) (d := d) w hk hc
          cases c with
          | false =>
            simp only [hc] at he
            refine ⟨(some false, ()), ?_, by simpa using he⟩
            simp only [Sem.run_bind, h1, h2, h3, Result.andThen_ok, Bool.not_false, if_true, Sem.run_pure]
          | true =>
            simp only [hc] at he
            obtain ⟨o, ho, hb⟩ := run_eq_array (d := d) (xs := xs) (ys := ys) w hk n (i + 1) r (by rw [hx', hy']; exact he)
            refine ⟨o, ?_, hb⟩
            simp only [Sem.run_bind, h1, h2, h3, Result.andThen_ok, Bool.not_true, Bool.false_eq_true, if_false, Sem.run_pure]
            exact ho
theorem run_equal_array {t e : TypeId} {k : Bk} {n : Nat} {xs ys : List Value} {r : Bool} (w : World) (hu : P.underlying t = some (.array n e)) (hs : (P.info? e).map (·.size) = some 1) (hk : (P.underlying e).bind Bk.of = some k)
    (he : eqCells (List.replicate n k) xs ys = some r) : (Op.equal t (.agg ⟨xs⟩) (.agg ⟨ys⟩)).run P w = .ok r w := by
  obtain ⟨o, ho, hb⟩ := run_eq_array (P := P) (d := 9998) (xs := xs) (ys := ys) w hk n 0 r (by simpa using he)
  have hsz : (sizeOf e).run P w = .ok 1 w := by
    cases hi : P.info? e with
    | none => simp [hi] at hs
    | some i => simp only [hi, Option.map_some, Option.some.injEq] at hs; simp [sizeOf, typeInfo, hi, hs]
  unfold Op.equal Op.maxDepth
  unfold Op.equalIn
  simp only [Sem.run_bind, run_underlying hu, Result.andThen_ok, hsz]
  simp only [Std.Legacy.Range.forIn_eq_forIn_range', Std.Legacy.Range.size, Nat.sub_zero, Nat.add_sub_cancel, Nat.div_one]
  simp only [Sem.run_bind, ho, Result.andThen_ok]
  rcases o with ⟨_ | b, u⟩
  · simp only at hb; subst hb; rfl
  · simp only at hb; subst hb; rfl

class EI (P : Program) (t : TypeId) (ks : outParam (List Bk)) : Prop where
  run : ∀ (w : World) (xs ys : List Value) (r : Bool), eqCells ks xs ys = some r → (Op.equal t (.agg ⟨xs⟩) (.agg ⟨ys⟩)).run P w = .ok r w
  guard : P.eqGuardType P.depth t = false
theorem EI.of {t : TypeId} {ks : List Bk} (h : eqinfo P t = some ks) : EI P t ks := by
  unfold eqinfo at h
  split at h
  · rename_i fs hu
    split at h
    · rename_i hc
      simp only [Bool.and_eq_true, Bool.not_eq_true'] at hc
      exact ⟨fun w xs ys r he => run_equal_struct w hu hc.1.1 hc.1.2 h he, hc.2⟩
    · cases h
  · rename_i n e hu
    split at h
    · rename_i hc
      simp only [Bool.and_eq_true, Bool.not_eq_true', beq_iff_eq] at hc
      cases hk : (P.underlying e).bind Bk.of with
      | none => simp [hk] at h
      | some k =>
        simp only [hk, Option.map_some, Option.some.injEq] at h
        subst h
        exact ⟨fun w xs ys r he => run_equal_array w hu hc.2 hk he, hc.1⟩
    · cases h
  · cases h
section
variable {β : Base} {E : Env} {L L' M : List HP} {K : Value → List HP → Prop} {d : Option Tmp} {ty : TypeId} {pos : String} {af : Array Edge} {g : Option (Nat × Bool)} {x y : Operand} {t t' : TypeId}
theorem run_eqGuard_agg {op : BinOp} {x y : Operand} {xs ys : List Value} (w : World) (h : P.eqGuardType P.depth t = false) : (eqGuard op t x y (.agg ⟨xs⟩) (.agg ⟨ys⟩)).run P w = .ok () w := by
  unfold eqGuard
  cases op <;> simp [h]
theorem OpJ.eqlA {ks : List Bk} {xs ys : List Value} {r : Bool} (I : EI P t ks) (hx : E.ev x = some (.agg ⟨xs⟩)) (hy : E.ev y = some (.agg ⟨ys⟩)) (he : eqB ks xs ys = some r) (h : K (.bool r) L) : OpJ P β E L ⟨d, .binOp .eql t x y t', ty, pos, af, g⟩ K :=
  OpJ.same (fun a w ha _ => by
    simp only [execOp, ha.ev hx, ha.ev hy, Sem.run_bind, run_eqGuard_agg w I.guard, Result.andThen_ok, binOp, I.run w xs ys r (eqB_cells _ _ _ _ he)]
    rfl) h
theorem OpJ.neqA {ks : List Bk} {xs ys : List Value} {r : Bool} (I : EI P t ks) (hx : E.ev x = some (.agg ⟨xs⟩)) (hy : E.ev y = some (.agg ⟨ys⟩)) (he : eqB ks xs ys = some r) (h : K (.bool (!r)) L) : OpJ P β E L ⟨d, .binOp .neq t x y t', ty, pos, af, g⟩ K :=
  OpJ.same (fun a w ha _ => by
    simp only [execOp, ha.ev hx, ha.ev hy, Sem.run_bind, run_eqGuard_agg w I.guard, Result.andThen_ok, binOp, I.run w xs ys r (eqB_cells _ _ _ _ he)]
    rfl) h
theorem OpJ.eqlB {a b : Bool} (ht : P.underlying t = some .bool) (hx : E.ev x = some (.bool a)) (hy : E.ev y = some (.bool b)) (h : K (.bool (decide (a = b))) L) : OpJ P β E L ⟨d, .binOp .eql t x y t', ty, pos, af, g⟩ K :=
  OpJ.same (fun c w ha _ => by
    have he := run_equalIn_cell (P := P) (d := 9999) (t := t) (k := .bool) (x := .bool a) (y := .bool b) (r := decide (a = b)) w (by simp [ht, Bk.of]) rfl
    simp only [execOp, ha.ev hx, ha.ev hy]
    simp [eqGuard, binOp, Op.equal, Op.maxDepth, he]) h
theorem OpJ.neqB {a b : Bool} (ht : P.underlying t = some .bool) (hx : E.ev x = some (.bool a)) (hy : E.ev y = some (.bool b)) (h : K (.bool (!decide (a = b))) L) : OpJ P β E L ⟨d, .binOp .neq t x y t', ty, pos, af, g⟩ K :=
  OpJ.same (fun c w ha _ => by
    have he := run_equalIn_cell (P := P) (d := 9999) (t := t) (k := .bool) (x := .bool a) (y := .bool b) (r := decide (a = b)) w (by simp [ht, Bk.of]) rfl
    simp only [execOp, ha.ev hx, ha.ev hy]
    simp [eqGuard, binOp, Op.equal, Op.maxDepth, he]) h

class AI (P : Program) (t : TypeId) (e : outParam TypeId) (n : outParam Nat) : Prop where
  under : P.underlying t = some (.array n e)
  one : TI P e false 1
theorem AI.of {e : TypeId} {n : Nat} (h : P.underlying t = some (.array n e)) (h2 : tinfo P e = some (false, 1)) : AI P t e n := ⟨h, .of h2⟩
theorem OpJ.indexArr {e : TypeId} {n : Nat} {k : IntKind} {i : Int} {cs : List Value} {v : Value} (I : AI P t e n) (hx : E.ev x = some (.agg ⟨cs⟩)) (hy : E.ev y = some (.int k i)) (hi : 0 ≤ i ∧ i < (n : Int)) (hv : cs[i.toNat]? = some v) (h : K v L) :
    OpJ P β E L ⟨d, .index t x y, ty, pos, af, g⟩ K :=
  OpJ.same (fun a w ha _ => by
    simp only [execOp, ha.ev hx, ha.ev hy, Instr.index, asIntOf]
    simp [run_underlying I.under, hi.1, hi.2, I.one.run_size, part, I.one.run_isAgg, hv]) h
theorem OpJ.indexAddrArr {e : TypeId} {n b o : Nat} {k : IntKind} {i : Int} (I : AI P t e n) (hx : E.ev x = some (.pointer (some ⟨b, o, none⟩))) (hy : E.ev y = some (.int k i)) (hi : 0 ≤ i ∧ i < (n : Int)) (h : K (.pointer (some ⟨b, o + i.toNat, none⟩)) L) :
    OpJ P β E L ⟨d, .indexAddr t x y, ty, pos, af, g⟩ K :=
  OpJ.same (fun a w ha _ => by
    simp only [execOp, ha.ev hx, ha.ev hy, Instr.indexAt, asIntOf]
    simp [run_underlying I.under, I.one.run_size, hi.1, hi.2, Addr.add_eq, Instr.sureAddr]) h
end
end
end Go.SL

namespace Go.SL
open Go

def RdS (R : HP) (oa : Option Addr) (cs : List Value) : Prop :=
  ∀ h, R h → cs = [] ∨ ∃ b o, oa = some ⟨b, o, none⟩ ∧ ∃ (c : Array Value) (t : TypeId) (fr : Nat × Nat), h b = some (.cells c t fr) ∧ ∀ j v, cs[j]? = some v → c[o + j]? = some v
theorem RdS.rd {R : HP} {b o : Nat} {cs : List Value} (h : RdS R (some ⟨b, o, none⟩) cs) (hne : cs ≠ []) : Rd R ⟨b, o, none⟩ cs := fun hp hr => by
  rcases h hp hr with h | ⟨b', o', e, c, t, fr, hb, hc⟩
  · exact absurd h hne
  · simp only [Option.some.injEq, Addr.mk.injEq, and_true] at e
    obtain ⟨rfl, rfl⟩ := e
    exact ⟨c, t, fr, hb, rfl, hc⟩
theorem RdS.addr {R : HP} {oa : Option Addr} {cs : List Value} (h : RdS R oa cs) (hne : cs ≠ []) {hp : Hp} (hr : R hp) : ∃ b o, oa = some ⟨b, o, none⟩ := by
  rcases h hp hr with h | ⟨b', o', e, _⟩
  · exact absurd h hne
  · exact ⟨b', o', e⟩
theorem Rd.rds {R : HP} {b o : Nat} {cs : List Value} (h : Rd R ⟨b, o, none⟩ cs) : RdS R (some ⟨b, o, none⟩) cs := fun hp hr => by
  obtain ⟨c, t, fr, hb, _, hc⟩ := h hp hr
  exact .inr ⟨b, o, rfl, c, t, fr, hb, hc⟩
theorem RdS.nil {R : HP} {oa : Option Addr} : RdS R oa [] := fun _ _ => .inl rfl

theorem flat_get {α : Type} {enc : α → List Value} {k : Nat} (hk : ∀ x, (enc x).length = k) : ∀ (xs : List α) (i : Nat) (x : α), xs[i]? = some x → ∀ j v, (enc x)[j]? = some v → (xs.flatMap enc)[i * k + j]? = some v
  | [], i, x, h, _, _, _ => by simp at h
  | y :: ys, 0, x, h, j, v, hj => by
    simp at h; subst h
    rw [List.flatMap_cons, Nat.zero_mul, Nat.zero_add, List.getElem?_append_left (by have := (List.getElem?_eq_some_iff.1 hj).1; exact this)]
    exact hj
  | y :: ys, i + 1, x, h, j, v, hj => by
    have ih := flat_get hk ys i x (by simpa using h) j v hj
    rw [List.flatMap_cons, List.getElem?_append_right (by rw [hk, Nat.add_mul]; omega), hk, Nat.add_mul]
    rw [show i * k + 1 * k + j - k = i * k + j from by omega]
    exact ih
theorem flat_len {α : Type} {enc : α → List Value} {k : Nat} (hk : ∀ x, (enc x).length = k) (xs : List α) : (xs.flatMap enc).length = xs.length * k := by
  induction xs with
  | nil => simp
  | cons x xs ih => rw [List.flatMap_cons, List.length_append, ih, hk, List.length_cons, Nat.add_mul]; omega
theorem Rd.elem {α : Type} {enc : α → List Value} {k : Nat} {R : HP} {b o : Nat} {xs : List α} {i : Nat} {x : α} (hk : ∀ x, (enc x).length = k) (hr : Rd R ⟨b, o, none⟩ (xs.flatMap enc)) (hx : xs[i]? = some x) : Rd R ⟨b, o + i * k, none⟩ (enc x) := fun h hh => by
  obtain ⟨c, t, fr, hb, hs, hc⟩ := hr h hh
  exact ⟨c, t, fr, hb, rfl, fun j v hj => by have := hc _ _ (flat_get hk xs i x hx j v hj); rw [← Nat.add_assoc] at this; exact this⟩
theorem Rd.fld {R : HP} {b o j : Nat} {cs : List Value} {v : Value} (hr : Rd R ⟨b, o, none⟩ cs) (hv : cs[j]? = some v) : Rd R ⟨b, o + j, none⟩ [v] := fun h hh => by
  obtain ⟨c, t, fr, hb, hs, hc⟩ := hr h hh
  refine ⟨c, t, fr, hb, rfl, fun i u hi => ?_⟩
  match i, hi with
  | 0, hi => simp at hi; subst hi; exact hc j _ hv

def own (T : TypeId) (k : Nat) (oa : Option Addr) (n cap : Nat) (cs : List Value) : HP := fun h =>
  cs.length = n * k ∧ n ≤ cap ∧ ((cap = 0 ∧ emp h) ∨ ∃ b junk, oa = some ⟨b, 0, none⟩ ∧ cap * k ≤ cs.length + junk.length ∧ pt b (blk (cs ++ junk) T) h)
theorem own.rds {T : TypeId} {k : Nat} {oa : Option Addr} {n cap : Nat} {cs : List Value} : RdS (own T k oa n cap cs) oa cs := fun h ⟨hl, hc, ho⟩ => by
  rcases ho with ⟨rfl, _⟩ | ⟨b, junk, rfl, _, hp⟩
  · left
    obtain rfl : n = 0 := by omega
    exact List.eq_nil_of_length_eq_zero (by simpa using hl)
  · right
    exact ⟨b, 0, rfl, ⟨cs ++ junk⟩, T, (0, 0), by rw [hp]; simp [blk], fun j v hj => by
      rw [Nat.zero_add]
      simp only [List.getElem?_toArray]
      rw [List.getElem?_append_left (List.getElem?_eq_some_iff.1 hj).1]; exact hj⟩
theorem own.nil {T : TypeId} {k : Nat} {h : Hp} (he : emp h) : own T k none 0 0 [] h := ⟨by simp, Nat.le_refl _, .inl ⟨rfl, he⟩⟩
theorem own.zero {T : TypeId} {k : Nat} {oa : Option Addr} {h : Hp} (he : emp h) : own T k oa 0 0 [] h := ⟨by simp, Nat.le_refl _, .inl ⟨rfl, he⟩⟩
theorem setRow_heap_eq {w : World} {b : Nat} {cs cs' : Array Value} {t : TypeId} {fr : Nat × Nat} (hb : w.heap[b]? = some (.cells cs t fr)) : (w.setRow b cs').heap = w.heap.setIfInBounds b (.cells cs' t fr) := by
  have := setRow_heap w b cs cs' t fr hb
  apply Array.ext_getElem?
  intro j
  by_cases hj : j = b
  · subst hj
    rw [this, Array.getElem?_setIfInBounds_self_of_lt (Array.getElem?_eq_some_iff.1 hb).1]
  · rw [Array.getElem?_setIfInBounds_ne (Ne.symm hj)]
    exact setRow_other w b j _ hj

theorem flat_replicate_get {zs : List Value} : ∀ (n i : Nat), i < n * zs.length → ((List.replicate n zs).flatten)[i]? = zs[i % zs.length]?
  | 0, i, h => by simp at h
  | n + 1, i, h => by
    rw [List.replicate_succ, List.flatten_cons]
    by_cases hi : i < zs.length
    · rw [List.getElem?_append_left hi, Nat.mod_eq_of_lt hi]
    · have hsm : (n + 1) * zs.length = n * zs.length + zs.length := Nat.succ_mul n zs.length
      have hm : i % zs.length = (i - zs.length) % zs.length := Nat.mod_eq_sub_mod (by omega)
      rw [List.getElem?_append_right (by omega), flat_replicate_get n (i - zs.length) (by omega), hm]
theorem madeCells_flat (zs : List Value) (n : Nat) : (madeCells ⟨zs⟩ (n * zs.length)).toList = (List.replicate n zs).flatten := by
  apply List.ext_getElem?
  intro i
  by_cases hi : i < n * zs.length
  · rw [flat_replicate_get n i hi]
    have h0 : 0 < zs.length := by
      rcases Nat.eq_zero_or_pos zs.length with h | h
      · rw [h] at hi; simp at hi
      · exact h
    have hm : i % zs.length < zs.length := Nat.mod_lt _ h0
    simp [madeCells, hi, hm, getElem!_pos]
  · rw [List.getElem?_eq_none (by simp [madeCells]; omega), List.getElem?_eq_none (by simp; omega)]

section
variable {P : Program} {β : Base} {n : Nat} {arr : Array Oper} {os : List Oper} {E : Env} {L L' M M' : List HP} {Q : Po}
theorem RunL.rdOpen {KK : Env → List HP → Prop} {R : HP} {oa : Option Addr} {cs : List Value} (p : Pick L R M) (hr : RdS R oa cs) (hne : cs ≠ []) (k : ∀ b o, oa = some ⟨b, o, none⟩ → Rd R ⟨b, o, none⟩ cs → RunL P β n arr os E L KK) : RunL P β n arr os E L KK := fun a w ha hs Q hQ => by
  have : ∃ b o, oa = some ⟨b, o, none⟩ := by
    obtain ⟨⟨h, hl, _, _⟩, _⟩ := hs
    obtain ⟨h1, h2, _, rfl, hA, _⟩ := p.star hl
    exact hr.addr hne hA
  obtain ⟨b, o, rfl⟩ := this
  exact k b o rfl (hr.rd hne) a w ha hs Q hQ
theorem Run.rdOpen {c : Code} {R : HP} {oa : Option Addr} {cs : List Value} (p : Pick L R M) (hr : RdS R oa cs) (hne : cs ≠ []) (k : ∀ b o, oa = some ⟨b, o, none⟩ → Rd R ⟨b, o, none⟩ cs → Run P β n c E L Q) : Run P β n c E L Q := fun a w ha hs => by
  have : ∃ b o, oa = some ⟨b, o, none⟩ := by
    obtain ⟨⟨h, hl, _, _⟩, _⟩ := hs
    obtain ⟨h1, h2, _, rfl, hA, _⟩ := p.star hl
    exact hr.addr hne hA
  obtain ⟨b, o, rfl⟩ := this
  exact k b o rfl (hr.rd hne) a w ha hs

variable {K : Value → List HP → Prop} {d : Option Tmp} {ty : TypeId} {pos : String} {af : Array Edge} {g : Option (Nat × Bool)} {x y : Operand} {t t' : TypeId}

class MI (P : Program) (e : TypeId) (k : outParam Nat) (bytes : outParam Nat) (zs : outParam (List Value)) : Prop where
  info : ∃ i z, P.info? e = some i ∧ i.size = k ∧ i.bytes = bytes ∧ i.zero = some z ∧ z.cells.toList = zs ∧ zs.length = k
theorem MI.of {e : TypeId} {k bytes : Nat} {zs : List Value} (h : (P.info? e).bind (fun i => i.zero.map fun z => (i.size, i.bytes, z.cells.toList)) = some (k, bytes, zs)) (hk : zs.length = k) : MI P e k bytes zs := by
  cases hi : P.info? e with
  | none => simp [hi] at h
  | some i =>
    cases hz : i.zero with
    | none => simp [hi, hz] at h
    | some z =>
      simp only [hi, hz, Option.bind_some, Option.map_some, Option.some.injEq, Prod.mk.injEq] at h
      exact ⟨i, z, hi, h.1, h.2.1, hz, h.2.2, hk⟩

theorem OpJ.appendB {e : TypeId} {k bytes n m c cap : Nat} {zs cs news : List Value} {oa : Option Addr} {ad : Addr} {R : HP} (S : SI P t e k) (I : MI P e k bytes zs) (hx : E.ev x = some (.slice oa n cap)) (hy : E.ev y = some (.slice (some ad) m c))
    (p : Pick L (own e k oa n cap cs) M) (p2 : Pick L R M') (hr : Rd R ad news) (hl : news.length = m * k) (h1 : ∀ v ∈ news, v.oneCell' = true) (hb : (n + m) * bytes ≤ 140737488355328) (h63 : n + m ≤ 9223372036854775807) (hm : 0 < m)
    (h : ∀ oa' cap', (cap ≤ 9223372036854775807 → cap' ≤ 9223372036854775807) → K (.slice oa' (n + m) cap') (own e k oa' (n + m) cap' (cs ++ news) :: M)) : OpJ P β E L ⟨d, .call ⟨.builtin .append, #[x, y], #[t, t]⟩, ty, pos, af, g⟩ K := OpJ.vals fun a w ha hs => by
  obtain ⟨i, z, hi, rfl, rfl, hz, rfl, hzl⟩ := I.info
  have hnews := hs.rd p2 hr
  have gle : ∀ old, grownCap w (n + m) old e ≤ 9223372036854775807 := fun old => grownCap_le_maxLen w (n + m) old e h63
  have hs1 : Has β (star (own e i.size oa n cap cs) (stars M)) w := Has.mono hs fun _ => p.star
  have hexec : ∀ v w', (Builtin.append_ #[t, t] ty #[.slice oa n cap, .slice (some ad) m c]).run P w = .ok v w' → (execOp a.eval ⟨d, .call ⟨.builtin .append, #[x, y], #[t, t]⟩, ty, pos, af, g⟩).run P w = .ok (.value v) w' := fun v w' hr => by
    simp [execOp, resolve, invoke, builtin, ha.ev hx, ha.ev hy, hr]
  have hown : cs.length = n * i.size ∧ n ≤ cap ∧ (cap = 0 ∨ ∃ b junk, oa = some ⟨b, 0, none⟩ ∧ cap * i.size ≤ cs.length + junk.length ∧ Has β (star (pt b (blk (cs ++ junk) e)) (stars M)) w) := by
    obtain ⟨⟨hp, ⟨ha1, hb1, hd, rfl, ⟨hl1, hc1, ho⟩, hM⟩, hsub, hown⟩, hrest⟩ := hs1
    refine ⟨hl1, hc1, ?_⟩
    rcases ho with ⟨h2, _⟩ | ⟨b, junk, h1, h2, h3⟩
    · exact .inl h2
    · exact .inr ⟨b, junk, h1, h2, ⟨⟨_, ⟨ha1, hb1, hd, rfl, h3, hM⟩, hsub, hown⟩, hrest⟩⟩
  obtain ⟨hcl, hnc, hcase⟩ := hown
  have hsM : Sat β M w := Has.right hs1
  have fresh : ∀ (old : Nat), old < n + m → ∃ w', w' = w.drew.alloc (.cells (cs.toArray ++ news.toArray ++ Builtin.zeroCells z.cells (grownCap w (n + m) old e - (n + m))) e) ∧
      Sat β (own e i.size (some ⟨w.heap.size, 0, none⟩) (n + m) (grownCap w (n + m) old e) (cs ++ news) :: M) w' := fun old ho => by
    refine ⟨_, rfl, ?_⟩
    have hge := grownCap_ge w (n + m) old e
    have h1 := Has.alloc (Has.drew hsM) (.cells (cs.toArray ++ news.toArray ++ Builtin.zeroCells z.cells (grownCap w (n + m) old e - (n + m))) e)
    refine h1.mono fun hp => star_mono (fun hp1 hpt => ?_) fun _ => id
    have hzs : z.cells.size = i.size := by rw [← hzl]; simp
    have hla : (cs ++ news).length = (n + m) * i.size := by rw [List.length_append, hcl, hl, Nat.add_mul]
    refine ⟨hla, hge, .inr ⟨w.heap.size, (Builtin.zeroCells z.cells (grownCap w (n + m) old e - (n + m))).toList, rfl, ?_, ?_⟩⟩
    · rw [hla, Array.length_toList, size_zeroCells, hzs, ← Nat.add_mul]
      exact Nat.mul_le_mul_right _ (by omega)
    · have he : (cs.toArray ++ news.toArray ++ Builtin.zeroCells z.cells (grownCap w (n + m) old e - (n + m))) = (⟨cs ++ news ++ (Builtin.zeroCells z.cells (grownCap w (n + m) old e - (n + m))).toList⟩ : Array Value) := by
        apply Array.ext'; simp
      rw [he] at hpt
      exact hpt
  rcases hcase with rfl | ⟨b, junk, rfl, hjl, hs2⟩
  · obtain rfl : n = 0 := by omega
    obtain rfl : cs = [] := List.eq_nil_of_length_eq_zero (by simpa using hcl)
    obtain ⟨w', rfl, hs'⟩ := fresh 0 (by omega)
    cases oa with
    | none =>
      have hrun := run_append_nil (P := P) w t ty e i z S.under hi hz ad m c news hl hnews hm (by omega) (by rw [Nat.zero_add] at hb; omega)
      simp only [Nat.zero_add, List.nil_append, Array.empty_append] at hs' hrun h ⊢
      exact ⟨_, _, _, hexec _ _ hrun, hs', h _ _ fun _ => (by simpa using gle _)⟩
    | some a0 =>
      have hrun := run_append_grow (P := P) w t ty e i z S.under hi hz a0 0 0 [] (by simp) (fun j u hj => by simp at hj) ad m c news hl hnews (by omega) (by omega) (growslice_fits (by omega) hb)
      exact ⟨_, _, _, hexec _ _ hrun, hs', h _ _ fun _ => (by simpa using gle _)⟩
  · have hblk : w.heap[b]? = some (blk (cs ++ junk) e) := by
      obtain ⟨⟨hp, ⟨ha1, hb1, hd, rfl, h3, hM⟩, hsub, _⟩, _⟩ := hs2
      exact Hp.sub_left hsub b _ (by rw [h3]; simp)
    by_cases hroom : n + m ≤ cap
    · have hfit : n * i.size + news.length ≤ (cs ++ junk).length := by
        rw [List.length_append, hl, ← Nat.add_mul]; exact Nat.le_trans (Nat.mul_le_mul_right _ hroom) hjl
      have hrun := run_append_room (P := P) w t ty e i S.under hi b n cap ⟨cs ++ junk⟩ hblk ad m c news hl hnews h1 hroom (by simpa using hfit)
      refine ⟨_, _, _, hexec _ _ hrun, ?_, h _ cap id⟩
      have hh := setRow_heap_eq (cs' := ((⟨cs ++ junk⟩ : Array Value).toList.take (n * i.size) ++ news ++ (⟨cs ++ junk⟩ : Array Value).toList.drop (n * i.size + news.length)).toArray) hblk
      have hs3 := Has.setObj (o' := .cells ((⟨cs ++ junk⟩ : Array Value).toList.take (n * i.size) ++ news ++ (⟨cs ++ junk⟩ : Array Value).toList.drop (n * i.size + news.length)).toArray e (0, 0)) hs2 hh rfl rfl rfl
      refine hs3.mono fun hp => star_mono (fun hp1 hpt => ?_) fun _ => id
      have hla : (cs ++ news).length = (n + m) * i.size := by rw [List.length_append, hcl, hl, Nat.add_mul]
      have ht : (cs ++ junk).take (n * i.size) = cs := by rw [← hcl]; exact List.take_left
      refine ⟨hla, hroom, .inr ⟨b, (cs ++ junk).drop (n * i.size + news.length), rfl, ?_, ?_⟩⟩
      · rw [hla, List.length_drop, List.length_append]
        have : (n + m) * i.size ≤ cap * i.size := Nat.mul_le_mul_right _ hroom
        rw [hl, ← Nat.add_mul]; omega
      · simp only [ht] at hpt
        exact hpt
    · have holds : ∀ j u, cs[j]? = some u → w.cell? ((⟨b, 0, none⟩ : Addr).add j) = some u := fun j u hj => by
        rw [Addr.add_eq rfl]
        have hjl := (List.getElem?_eq_some_iff.1 hj).1
        have hblk' : w.heap[b]? = some (.cells ⟨cs ++ junk⟩ e (0, 0)) := hblk
        simp only [World.cell?, hblk', Nat.zero_add, Option.isSome_none, Bool.false_eq_true, if_false, List.getElem?_toArray]
        rw [List.getElem?_append_left hjl]; exact hj
      have hrun := run_append_grow (P := P) w t ty e i z S.under hi hz ⟨b, 0, none⟩ n cap cs hcl holds ad m c news hl hnews (by omega) (by omega) (growslice_fits (by omega) hb)
      obtain ⟨w', rfl, hs'⟩ := fresh cap (by omega)
      exact ⟨_, _, _, hexec _ _ hrun, hs', h _ _ fun _ => (by simpa using gle _)⟩

theorem OpJ.append {e : TypeId} {k bytes n m c cap : Nat} {zs cs news : List Value} {oa : Option Addr} {ad : Addr} {R : HP} (S : SI P t e k) (I : MI P e k bytes zs) (hx : E.ev x = some (.slice oa n cap)) (hy : E.ev y = some (.slice (some ad) m c))
    (p : Pick L (own e k oa n cap cs) M) (p2 : Pick L R M') (hr : Rd R ad news) (hl : news.length = m * k) (h1 : ∀ v ∈ news, v.oneCell' = true) (hb : (n + m) * bytes ≤ 140737488355328) (h63 : n + m ≤ 9223372036854775807) (hm : 0 < m)
    (h : ∀ oa' cap', K (.slice oa' (n + m) cap') (own e k oa' (n + m) cap' (cs ++ news) :: M)) : OpJ P β E L ⟨d, .call ⟨.builtin .append, #[x, y], #[t, t]⟩, ty, pos, af, g⟩ K := OpJ.appendB S I hx hy p p2 hr hl h1 hb h63 hm fun a c _ => h a c
theorem OpJ.copy {e : TypeId} {k sl sc dl dc b o : Nat} {cs news : List Value} {bt : TypeId} {ad : Addr} {R : HP} (S : SI P t e k) (hx : E.ev x = some (.slice (some ⟨b, o, none⟩) dl dc)) (hy : E.ev y = some (.slice (some ad) sl sc))
    (p : Upd L (pt b (blk cs bt)) (pt b (blk (cs.take o ++ news ++ cs.drop (o + news.length)) bt)) L') (p2 : Pick L R M') (hr : Rd R ad news) (hl : news.length = Nat.min sl dl * k) (h1 : ∀ v ∈ news, v.oneCell' = true) (hfit : o + news.length ≤ cs.length)
    (h : K (.int .i64 (Nat.min sl dl : Nat)) L') : OpJ P β E L ⟨d, .call ⟨.builtin .copy, #[x, y], #[t, t']⟩, ty, pos, af, g⟩ K := OpJ.vals fun a w ha hs => by
  have hnews := hs.rd p2 hr
  obtain ⟨M, g1, g2⟩ := p.star
  have hs1 : Has β (star (pt b (blk cs bt)) (stars M)) w := Has.mono hs g1
  have hblk : w.heap[b]? = some (.cells ⟨cs⟩ bt (0, 0)) := by
    obtain ⟨⟨hp, ⟨ha1, hb1, hd, rfl, h3, hM⟩, hsub, _⟩, _⟩ := hs1
    exact Hp.sub_left hsub b _ (by rw [h3]; simp [blk])
  have hst := run_storeCells_at P b o bt news 0 ⟨cs⟩ w hblk (by simpa using hfit) h1
  simp only [Nat.add_zero] at hst
  have hf := run_firstCells_some (P := P) w k (Nat.min sl dl) ad sl sc news hl hnews
  have hrun : (Builtin.copy_ #[t, t'] ty #[.slice (some ⟨b, o, none⟩) dl dc, .slice (some ad) sl sc]).run P w = .ok (goInt (Nat.min sl dl : Nat)) (w.setRow b (cs.take o ++ news ++ cs.drop (o + news.length)).toArray) := by
    simp [Builtin.copy_, run_underlying S.under, Builtin.lenOf, S.run_size, hf, hst]
  refine ⟨_, L', w.setRow b (cs.take o ++ news ++ cs.drop (o + news.length)).toArray, by simp only [execOp, resolve, invoke, builtin, List.map_toArray, List.map_cons, List.map_nil, ha.ev hx, ha.ev hy, Sem.run_bind, Sem.run_pure, Result.andThen_ok, hrun]; rfl, ?_, h⟩
  exact (hs1.setObj (setRow_heap_eq hblk) rfl rfl rfl).mono g2
theorem OpJ.buildSlice1 {e : TypeId} {k : Nat} {v : Value} {vs zs : List Value} (S : SI P t e k) (hx : E.ev x = some v) (hv : v.cells.toList = vs) (hl : vs.length = k) (hk : k ≤ 16777216) (h0 : 0 < k) (Z : ZI P e zs) (hz : zs.length = k)
    (h : ∀ b, K (.slice (some ⟨b, 0, none⟩) 1 1) (pt b (blk vs e) :: L)) : OpJ P β E L ⟨d, .buildSlice t 1 #[(0, x)], ty, pos, af, g⟩ K := OpJ.vals fun a w ha hs => by
  obtain ⟨i, z, hi, hiz, rfl⟩ := Z.zero
  subst hv
  refine ⟨.slice (some ⟨w.heap.size, 0, none⟩) 1 1, pt w.heap.size (blk v.cells.toList e) :: L, w.alloc (blk v.cells.toList e), ?_, Has.alloc hs _, h w.heap.size⟩
  have hfill : Instr.fill (fun i => some (i * k, k)) ((Array.range (1 * k)).map (z.cells[· % z.cells.size]!)) [(0, v)] = some v.cells := by
    have hsz : v.cells.size = k := by simpa using hl
    simp only [Instr.fill, hsz]
    have hlen : ((Array.range (1 * k)).map (z.cells[· % z.cells.size]!)).size = k := by simp
    have h4 : (decide (k ≠ k) || decide (0 * k + k > ((Array.range (1 * k)).map (z.cells[· % z.cells.size]!)).size)) = false := by rw [hlen]; simp
    simp only [h4, Bool.false_eq_true, if_false]
    congr 1
    rw [← Array.foldl_toList]
    have e := foldl_set 0 v.cells.toList 0 ((Array.range (1 * k)).map (z.cells[· % z.cells.size]!)) (by rw [hlen]; simp [hsz])
    simp only [Nat.zero_add] at e
    have e2 : (v.cells.zipIdx).toList = v.cells.toList.zipIdx := by simp
    rw [e2]
    have e3 : (fun (cs : Array Value) (x : Value × Nat) => cs.setIfInBounds (0 * k + x.2) x.1) = fun cs x => cs.setIfInBounds x.2 x.1 := by funext cs x; simp
    have e4 : (List.drop v.cells.toList.length ((Array.range (1 * k)).map (z.cells[· % z.cells.size]!)).toList) = [] := by
      apply List.drop_eq_nil_of_le; rw [Array.length_toList, hlen, hl]; exact Nat.le_refl _
    rw [e4] at e
    simp only [List.take_zero, List.nil_append, List.append_nil] at e
    rw [show (fun (cs : Array Value) (x : Value × Nat) => match x with | (c, j) => cs.setIfInBounds (0 * k + j) c) = fun cs x => cs.setIfInBounds x.2 x.1 from by funext cs x; simp]
    rw [e]
  have hk' : ¬ (k > 2 ^ 24) := by omega
  have hk0 : ¬ (k = 0) := by omega
  simp only [execOp, Instr.buildSlice]
  simp only [Sem.run_bind, run_underlying S.under, Result.andThen_ok, S.run_size, Nat.one_mul]
  have hk2 : ¬ (16777216 < k) := by omega
  rw [Nat.one_mul] at hfill
  simp [hk0, hk2, zeroValue, typeInfo, hi, hiz, newRow, ha.ev hx, hfill]
  rfl
end
end Go.SL

namespace Go.SL
open Go
def DetJ (P : Program) (β : Base) (E : Env) (L : List HP) (o : Oper) (v : Value) : Prop := ∀ (a : Act) (w : World), EOk E a → Sat β L w → (execOp a.eval o).run P w = .ok (.value v) w
section
variable {P : Program} {β : Base} {n : Nat} {arr : Array Oper} {os : List Oper} {E : Env} {L L' M F As : List HP} {K : Value → List HP → Prop} {Q : Po} {x y : Operand} {t t' : TypeId} {k k' : IntKind} {m n : Int} {s u : ByteArray}
variable {d : Option Tmp} {ty : TypeId} {pos : String} {af : Array Edge} {g : Option (Nat × Bool)}

theorem DetJ.move {x : Operand} {v : Value} (hx : E.ev x = some v) : DetJ P β E L ⟨d, .move x, ty, pos, af, g⟩ v :=
  fun a w ha _ => by simp [execOp, ha.ev hx]
theorem DetJ.assign {x : Operand} {v : Value} (hx : E.ev x = some v) : DetJ P β E L ⟨d, .assign x, ty, pos, af, g⟩ v :=
  fun a w ha _ => by simp [execOp, ha.ev hx]
theorem DetJ.pick {c x y : Operand} {b : Bool} {u v : Value} (hc : E.ev c = some (.bool b)) (hx : E.ev x = some u) (hy : E.ev y = some v) : DetJ P β E L ⟨d, .pick c x y, ty, pos, af, g⟩ (if b then u else v) :=
  fun a w ha _ => by simp [execOp, ha.ev hc, ha.ev hx, ha.ev hy, asBool]
theorem DetJ.pickT {c x y : Operand} {u : Value} (hc : E.ev c = some (.bool true)) (hx : E.ev x = some u) : DetJ P β E L ⟨d, .pick c x y, ty, pos, af, g⟩ u :=
  fun a w ha _ => by simp [execOp, ha.ev hc, ha.ev hx, asBool]
theorem DetJ.pickF {c x y : Operand} {v : Value} (hc : E.ev c = some (.bool false)) (hy : E.ev y = some v) : DetJ P β E L ⟨d, .pick c x y, ty, pos, af, g⟩ v :=
  fun a w ha _ => by simp [execOp, ha.ev hc, ha.ev hy, asBool]
theorem DetJ.add (hx : E.ev x = some (.int k m)) (hy : E.ev y = some (.int k n)) : DetJ P β E L ⟨d, .binOp .add t x y t', ty, pos, af, g⟩ (.int k (k.wrap (m + n))) :=
  fun a w ha _ => by simp [execOp, ha.ev hx, ha.ev hy, eqGuard, binOp, Op.intArith]
theorem DetJ.sub (hx : E.ev x = some (.int k m)) (hy : E.ev y = some (.int k n)) : DetJ P β E L ⟨d, .binOp .sub t x y t', ty, pos, af, g⟩ (.int k (k.wrap (m - n))) :=
  fun a w ha _ => by simp [execOp, ha.ev hx, ha.ev hy, eqGuard, binOp, Op.intArith]
theorem DetJ.mul (hx : E.ev x = some (.int k m)) (hy : E.ev y = some (.int k n)) : DetJ P β E L ⟨d, .binOp .mul t x y t', ty, pos, af, g⟩ (.int k (k.wrap (m * n))) :=
  fun a w ha _ => by simp [execOp, ha.ev hx, ha.ev hy, eqGuard, binOp, Op.intArith]
theorem DetJ.quo (hx : E.ev x = some (.int k m)) (hy : E.ev y = some (.int k n)) (h0 : n ≠ 0) : DetJ P β E L ⟨d, .binOp .quo t x y t', ty, pos, af, g⟩ (.int k (k.wrap (m.tdiv n))) :=
  fun a w ha _ => by simp [execOp, ha.ev hx, ha.ev hy, eqGuard, binOp, Op.intDiv, h0]
theorem DetJ.rem (hx : E.ev x = some (.int k m)) (hy : E.ev y = some (.int k n)) (h0 : n ≠ 0) : DetJ P β E L ⟨d, .binOp .rem t x y t', ty, pos, af, g⟩ (.int k (m.tmod n)) :=
  fun a w ha _ => by simp [execOp, ha.ev hx, ha.ev hy, eqGuard, binOp, Op.intDiv, h0]
theorem DetJ.lss (hx : E.ev x = some (.int k m)) (hy : E.ev y = some (.int k n)) : DetJ P β E L ⟨d, .binOp .lss t x y t', ty, pos, af, g⟩ (.bool (decide (m < n))) :=
  fun a w ha _ => by simp [execOp, ha.ev hx, ha.ev hy, eqGuard, binOp, Op.intCmp]
theorem DetJ.leq (hx : E.ev x = some (.int k m)) (hy : E.ev y = some (.int k n)) : DetJ P β E L ⟨d, .binOp .leq t x y t', ty, pos, af, g⟩ (.bool (decide (m ≤ n))) :=
  fun a w ha _ => by simp [execOp, ha.ev hx, ha.ev hy, eqGuard, binOp, Op.intCmp]
theorem DetJ.gtr (hx : E.ev x = some (.int k m)) (hy : E.ev y = some (.int k n)) : DetJ P β E L ⟨d, .binOp .gtr t x y t', ty, pos, af, g⟩ (.bool (decide (n < m))) :=
  fun a w ha _ => by simp [execOp, ha.ev hx, ha.ev hy, eqGuard, binOp, Op.intCmp]
theorem DetJ.geq (hx : E.ev x = some (.int k m)) (hy : E.ev y = some (.int k n)) : DetJ P β E L ⟨d, .binOp .geq t x y t', ty, pos, af, g⟩ (.bool (decide (n ≤ m))) :=
  fun a w ha _ => by simp [execOp, ha.ev hx, ha.ev hy, eqGuard, binOp, Op.intCmp]
theorem DetJ.eql (hx : E.ev x = some (.int k m)) (hy : E.ev y = some (.int k n)) : DetJ P β E L ⟨d, .binOp .eql t x y t', ty, pos, af, g⟩ (.bool (decide (m = n))) :=
  fun a w ha _ => by simp [execOp, ha.ev hx, ha.ev hy, eqGuard, binOp, Op.intCmp]; rfl
theorem DetJ.neq (hx : E.ev x = some (.int k m)) (hy : E.ev y = some (.int k n)) : DetJ P β E L ⟨d, .binOp .neq t x y t', ty, pos, af, g⟩ (.bool (decide (m ≠ n))) :=
  fun a w ha _ => by
    simp [execOp, ha.ev hx, ha.ev hy, eqGuard, binOp, Op.intCmp]
    by_cases h : m = n <;> simp [h]
theorem DetJ.shl (hx : E.ev x = some (.int k m)) (hy : E.ev y = some (.int k' n)) (h0 : 0 ≤ n) : DetJ P β E L ⟨d, .binOp .shl t x y t', ty, pos, af, g⟩ (.int k (k.wrap (m * 2 ^ (min n.toNat k.bits)))) :=
  fun a w ha _ => by simp [execOp, ha.ev hx, ha.ev hy, eqGuard, binOp, Op.shift, Int.not_lt.2 h0]
theorem DetJ.shr (hx : E.ev x = some (.int k m)) (hy : E.ev y = some (.int k' n)) (h0 : 0 ≤ n) : DetJ P β E L ⟨d, .binOp .shr t x y t', ty, pos, af, g⟩ (.int k (m.fdiv (2 ^ (min n.toNat k.bits)))) :=
  fun a w ha _ => by simp [execOp, ha.ev hx, ha.ev hy, eqGuard, binOp, Op.shift, Int.not_lt.2 h0]
theorem DetJ.band (hx : E.ev x = some (.int k m)) (hy : E.ev y = some (.int k n)) : DetJ P β E L ⟨d, .binOp .and t x y t', ty, pos, af, g⟩ (.int k (k.wrap (BitVec.ofInt k.bits m &&& BitVec.ofInt k.bits n).toNat)) :=
  fun a w ha _ => by simp [execOp, ha.ev hx, ha.ev hy, eqGuard, binOp, Op.intBits]
theorem DetJ.bor (hx : E.ev x = some (.int k m)) (hy : E.ev y = some (.int k n)) : DetJ P β E L ⟨d, .binOp .or t x y t', ty, pos, af, g⟩ (.int k (k.wrap (BitVec.ofInt k.bits m ||| BitVec.ofInt k.bits n).toNat)) :=
  fun a w ha _ => by simp [execOp, ha.ev hx, ha.ev hy, eqGuard, binOp, Op.intBits]
theorem DetJ.neg (hx : E.ev x = some (.int k m)) : DetJ P β E L ⟨d, .unOp .neg t x, ty, pos, af, g⟩ (.int k (k.wrap (0 - m))) :=
  fun a w ha _ => by simp [execOp, ha.ev hx, Op.unary, Op.intArith]
theorem DetJ.not {b : Bool} (hx : E.ev x = some (.bool b)) : DetJ P β E L ⟨d, .unOp .not t x, ty, pos, af, g⟩ (.bool (!b)) :=
  fun a w ha _ => by simp [execOp, ha.ev hx, Op.unary]
theorem DetJ.conv (hs : (P.underlying t).isSome = true) (hd : P.underlying t' = some (.int k')) (hx : E.ev x = some (.int k m)) : DetJ P β E L ⟨d, .convert t t' x, ty, pos, af, g⟩ (.int k' (k'.wrap m)) :=
  fun a w ha _ => by
    obtain ⟨u, hu⟩ := Option.isSome_iff_exists.1 hs
    simp only [execOp, ha.ev hx]
    simp [convert, run_underlying hu, run_underlying hd, Conv.intToInt]
theorem DetJ.eqlS (hx : E.ev x = some (.string s)) (hy : E.ev y = some (.string u)) : DetJ P β E L ⟨d, .binOp .eql t x y t', ty, pos, af, g⟩ (.bool (decide (s = u))) :=
  fun a w ha _ => by simp [execOp, ha.ev hx, ha.ev hy, eqGuard, binOp, Op.stringOp, str_eq]
theorem DetJ.neqS (hx : E.ev x = some (.string s)) (hy : E.ev y = some (.string u)) : DetJ P β E L ⟨d, .binOp .neq t x y t', ty, pos, af, g⟩ (.bool (decide (s ≠ u))) :=
  fun a w ha _ => by simp [execOp, ha.ev hx, ha.ev hy, eqGuard, binOp, Op.stringOp, str_eq]
theorem DetJ.lssS (hx : E.ev x = some (.string s)) (hy : E.ev y = some (.string u)) : DetJ P β E L ⟨d, .binOp .lss t x y t', ty, pos, af, g⟩ (.bool (Op.bytesLess s.toList u.toList)) :=
  fun a w ha _ => by simp [execOp, ha.ev hx, ha.ev hy, eqGuard, binOp, Op.stringOp]
theorem DetJ.gtrS (hx : E.ev x = some (.string s)) (hy : E.ev y = some (.string u)) : DetJ P β E L ⟨d, .binOp .gtr t x y t', ty, pos, af, g⟩ (.bool (!(Op.bytesLess s.toList u.toList || decide (s = u)))) :=
  fun a w ha _ => by simp [execOp, ha.ev hx, ha.ev hy, eqGuard, binOp, Op.stringOp, str_eq]
theorem DetJ.neqNil {p : Option Addr} (ht : P.underlying t = some (.pointer (P.pointee t))) (hx : E.ev x = some (.pointer p)) : DetJ P β E L ⟨d, .binOp .neq t x (.const (.pointer none)) t', ty, pos, af, g⟩ (.bool p.isSome) :=
  fun a w ha _ => by
    have hc : a.eval (.const (.pointer none)) = .pointer none := rfl
    simp only [execOp, ha.ev hx, hc]
    simp [eqGuard, run_neq_pointer_nil w t p ht]
theorem DetJ.eqlNil {p : Option Addr} (ht : P.underlying t = some (.pointer (P.pointee t))) (hx : E.ev x = some (.pointer p)) : DetJ P β E L ⟨d, .binOp .eql t x (.const (.pointer none)) t', ty, pos, af, g⟩ (.bool p.isNone) :=
  fun a w ha _ => by
    have hc : a.eval (.const (.pointer none)) = .pointer none := rfl
    simp only [execOp, ha.ev hx, hc]
    simp [eqGuard, run_eql_pointer_nil w t p ht]
theorem DetJ.nilCheck {p : Addr} (hx : E.ev x = some (.pointer (some p))) : DetJ P β E L ⟨d, .nilCheck x, ty, pos, af, g⟩ (.pointer (some p)) :=
  fun a w ha _ => by simp [execOp, ha.ev hx]
theorem DetJ.makeFunc {fn : Fn} {xs ys : List Operand} {vs us : List Value} (hx : E.evs xs = some vs) (hy : E.evs ys = some us) : DetJ P β E L ⟨d, .makeFunc fn ⟨xs⟩ ⟨ys⟩, ty, pos, af, g⟩ (.func fn ⟨vs⟩ ⟨us⟩) :=
  fun a w ha _ => by
    have h1 : Array.map a.eval ⟨xs⟩ = ⟨vs⟩ := by rw [List.map_toArray, ha.evs hx]
    have h2 : Array.map a.eval ⟨ys⟩ = ⟨us⟩ := by rw [List.map_toArray, ha.evs hy]
    simp [execOp, h1, h2, Instr.makeFunc]
theorem DetJ.extract {vs : List Value} {i : Nat} {v : Value} (hx : E.ev x = some (.tuple ⟨vs⟩)) (hi : vs[i]? = some v) : DetJ P β E L ⟨d, .extract x i, ty, pos, af, g⟩ v :=
  fun a w ha _ => by simp [execOp, ha.ev hx, Instr.extract, hi]
theorem DetJ.loadA {n : Nat} {a : Addr} {A : HP} {vs : List Value} (T : TI P t true n) (hx : E.ev x = some (.pointer (some a))) (p : Pick L A M) (hr : Rd A a vs) (hn : vs.length = n) : DetJ P β E L ⟨d, .load t x, ty, pos, af, g⟩ (.agg ⟨vs⟩) :=
  fun b w ha hs => by
    have hl := T.loadAgg hn (hs.rd p hr)
    simp [execOp, ha.ev hx, Instr.loadAt, Instr.sureAddr, hl]
theorem DetJ.load1 {n : Nat} {a : Addr} {A : HP} {v : Value} (T : TI P t false n) (hx : E.ev x = some (.pointer (some a))) (p : Pick L A M) (hr : Rd A a [v]) : DetJ P β E L ⟨d, .load t x, ty, pos, af, g⟩ v :=
  fun b w ha hs => by
    have hc := hs.rd p hr 0 v rfl
    rw [Addr.add_zero] at hc
    have hl := T.load1 hc
    simp [execOp, ha.ev hx, Instr.loadAt, Instr.sureAddr, hl]
theorem DetJ.fieldAddr {i off b o : Nat} {ft : TypeId} (F : FI P t i ft off) (hx : E.ev x = some (.pointer (some ⟨b, o, none⟩))) : DetJ P β E L ⟨d, .fieldAddr t x i, ty, pos, af, g⟩ (.pointer (some ⟨b, o + off, none⟩)) :=
  fun a w ha _ => by
    obtain ⟨fs, f, hu, hf, rfl, rfl, j, hj, hz⟩ := F.fld
    simp [execOp, ha.ev hx, Instr.fieldAt, Instr.sureAddr, run_underlying hu, hf, fieldPlace, sizeOf, typeInfo, hj, hz, Addr.add_eq]
theorem DetJ.fieldA {i off n : Nat} {ft : TypeId} {cs : List Value} (F : FI P t i ft off) (T : TI P ft true n) (hx : E.ev x = some (.agg ⟨cs⟩)) : DetJ P β E L ⟨d, .field t x i, ty, pos, af, g⟩ (.agg ⟨(cs.drop off).take n⟩) :=
  fun a w ha _ => by
    obtain ⟨fs, f, hu, hf, rfl, rfl, j, hj, hz⟩ := F.fld
    simp only [execOp, ha.ev hx, Instr.field]
    simp [run_underlying hu, hf, part, T.run_isAgg, T.run_size, asAgg]
    skip
theorem DetJ.field1 {i off n : Nat} {ft : TypeId} {cs : List Value} {v : Value} (F : FI P t i ft off) (T : TI P ft false n) (hx : E.ev x = some (.agg ⟨cs⟩)) (hv : cs[off]? = some v) : DetJ P β E L ⟨d, .field t x i, ty, pos, af, g⟩ v :=
  fun a w ha _ => by
    obtain ⟨fs, f, hu, hf, rfl, rfl, j, hj, hz⟩ := F.fld
    simp [execOp, ha.ev hx, Instr.field, run_underlying hu, hf, part, T.run_isAgg, asAgg, hv]
theorem DetJ.len {e : TypeId} {n l c : Nat} {oa : Option Addr} (S : SI P t e n) (hx : E.ev x = some (.slice oa l c)) : DetJ P β E L ⟨d, .call ⟨.builtin .len, #[x], #[t]⟩, ty, pos, af, g⟩ (.int .i64 (l : Int)) :=
  fun a w ha _ => by simp [execOp, resolve, invoke, builtin, Builtin.len_, ha.ev hx, run_underlying S.under, goInt]
theorem DetJ.lenS {s : ByteArray} (ht : P.underlying t = some .string) (hx : E.ev x = some (.string s)) : DetJ P β E L ⟨d, .call ⟨.builtin .len, #[x], #[t]⟩, ty, pos, af, g⟩ (.int .i64 (s.size : Int)) :=
  fun a w ha _ => by simp [execOp, resolve, invoke, builtin, Builtin.len_, ha.ev hx, run_underlying ht, goInt]
theorem DetJ.indexAddr {e : TypeId} {n l c b o : Nat} {k : IntKind} {i : Int} (S : SI P t e n) (hx : E.ev x = some (.slice (some ⟨b, o, none⟩) l c)) (hy : E.ev y = some (.int k i)) (hi : 0 ≤ i ∧ i < (l : Int)) : DetJ P β E L ⟨d, .indexAddr t x y, ty, pos, af, g⟩ (.pointer (some ⟨b, o + i.toNat * n, none⟩)) :=
  fun a w ha _ => by
    simp only [execOp, ha.ev hx, ha.ev hy, Instr.indexAt, asIntOf]
    simp [run_underlying S.under, S.run_size, hi.1, hi.2, Addr.add_eq]
theorem DetJ.indexS {k : IntKind} {i : Int} {s : ByteArray} {u : UInt8} (ht : P.underlying t = some .string) (hx : E.ev x = some (.string s)) (hy : E.ev y = some (.int k i)) (h0 : 0 ≤ i) (hu : s[i.toNat]? = some u) : DetJ P β E L ⟨d, .index t x y, ty, pos, af, g⟩ (.int .u8 (u.toNat : Int)) :=
  fun a w ha _ => by
    simp only [execOp, ha.ev hx, ha.ev hy, Instr.index, asIntOf]
    simp [run_underlying ht, h0, hu]
theorem DetJ.eqlA {ks : List Bk} {xs ys : List Value} {r : Bool} (I : EI P t ks) (hx : E.ev x = some (.agg ⟨xs⟩)) (hy : E.ev y = some (.agg ⟨ys⟩)) (he : eqB ks xs ys = some r) : DetJ P β E L ⟨d, .binOp .eql t x y t', ty, pos, af, g⟩ (.bool r) :=
  fun a w ha _ => by
    simp only [execOp, ha.ev hx, ha.ev hy, Sem.run_bind, run_eqGuard_agg w I.guard, Result.andThen_ok, binOp, I.run w xs ys r (eqB_cells _ _ _ _ he)]
    rfl
theorem DetJ.neqA {ks : List Bk} {xs ys : List Value} {r : Bool} (I : EI P t ks) (hx : E.ev x = some (.agg ⟨xs⟩)) (hy : E.ev y = some (.agg ⟨ys⟩)) (he : eqB ks xs ys = some r) : DetJ P β E L ⟨d, .binOp .neq t x y t', ty, pos, af, g⟩ (.bool (!r)) :=
  fun a w ha _ => by
    simp only [execOp, ha.ev hx, ha.ev hy, Sem.run_bind, run_eqGuard_agg w I.guard, Result.andThen_ok, binOp, I.run w xs ys r (eqB_cells _ _ _ _ he)]
    rfl
theorem DetJ.eqlB {a b : Bool} (ht : P.underlying t = some .bool) (hx : E.ev x = some (.bool a)) (hy : E.ev y = some (.bool b)) : DetJ P β E L ⟨d, .binOp .eql t x y t', ty, pos, af, g⟩ (.bool (decide (a = b))) :=
  fun c w ha _ => by
    have he := run_equalIn_cell (P := P) (d := 9999) (t := t) (k := .bool) (x := .bool a) (y := .bool b) (r := decide (a = b)) w (by simp [ht, Bk.of]) rfl
    simp only [execOp, ha.ev hx, ha.ev hy]
    simp [eqGuard, binOp, Op.equal, Op.maxDepth, he]
theorem DetJ.neqB {a b : Bool} (ht : P.underlying t = some .bool) (hx : E.ev x = some (.bool a)) (hy : E.ev y = some (.bool b)) : DetJ P β E L ⟨d, .binOp .neq t x y t', ty, pos, af, g⟩ (.bool (!decide (a = b))) :=
  fun c w ha _ => by
    have he := run_equalIn_cell (P := P) (d := 9999) (t := t) (k := .bool) (x := .bool a) (y := .bool b) (r := decide (a = b)) w (by simp [ht, Bk.of]) rfl
    simp only [execOp, ha.ev hx, ha.ev hy]
    simp [eqGuard, binOp, Op.equal, Op.maxDepth, he]
theorem DetJ.indexArr {e : TypeId} {n : Nat} {k : IntKind} {i : Int} {cs : List Value} {v : Value} (I : AI P t e n) (hx : E.ev x = some (.agg ⟨cs⟩)) (hy : E.ev y = some (.int k i)) (hi : 0 ≤ i ∧ i < (n : Int)) (hv : cs[i.toNat]? = some v) : DetJ P β E L ⟨d, .index t x y, ty, pos, af, g⟩ v :=
  fun a w ha _ => by
    simp only [execOp, ha.ev hx, ha.ev hy, Instr.index, asIntOf]
    simp [run_underlying I.under, hi.1, hi.2, I.one.run_size, part, I.one.run_isAgg, hv]
theorem DetJ.indexAddrArr {e : TypeId} {n b o : Nat} {k : IntKind} {i : Int} (I : AI P t e n) (hx : E.ev x = some (.pointer (some ⟨b, o, none⟩))) (hy : E.ev y = some (.int k i)) (hi : 0 ≤ i ∧ i < (n : Int)) : DetJ P β E L ⟨d, .indexAddr t x y, ty, pos, af, g⟩ (.pointer (some ⟨b, o + i.toNat, none⟩)) :=
  fun a w ha _ => by
    simp only [execOp, ha.ev hx, ha.ev hy, Instr.indexAt, asIntOf]
    simp [run_underlying I.under, I.one.run_size, hi.1, hi.2, Addr.add_eq, Instr.sureAddr]
end
end Go.SL

namespace Go.SL
open Go

def depOn (ops : Array Oper) (i j : Nat) : Bool := ((ops[i]?).map fun o => o.after.any fun e => Region.binds .any e && e.on == j).getD false

def depT (ops : Array Oper) : Nat → Nat → Nat → Bool
  | 0, i, j => depOn ops i j
  | d + 1, i, j => depOn ops i j || match ops[i]? with | some o => o.after.any fun e => Region.binds .any e && depT ops d e.on j | none => false
def Closed (ops : Array Oper) (listed : Array Bool) : Prop := ∀ (j : Nat) (o : Oper), ops[j]? = some o → listed.getD j true = true → ∀ e ∈ o.after, Region.binds .any e = true → listed.getD e.on true = true
theorem getD_ft {l : Array Bool} {k : Nat} (h : l.getD k false = true) : l.getD k true = true := by
  rw [Array.getD_eq_getD_getElem?] at h ⊢
  cases hk : l[k]? with
  | none => rfl
  | some b => rw [hk] at h; exact h
theorem getD_tt {l : Array Bool} {i k : Nat} (h : l.getD k true = true) : (l.setIfInBounds i true).getD k true = true := by
  rw [Array.getD_eq_getD_getElem?] at h ⊢
  rw [Array.getElem?_setIfInBounds]
  split
  · split <;> rfl
  · exact h
theorem Closed.set {ops : Array Oper} {listed : Array Bool} {i : Nat} (hc : Closed ops listed) (hr : i ∈ Region.ready .any ops listed) : Closed ops (listed.setIfInBounds i true) := by
  intro j o ho hj e he hb
  by_cases hji : j = i
  · subst hji
    obtain ⟨_, o', ho', hall⟩ := mem_ready.1 hr
    rw [ho] at ho'; cases ho'
    exact getD_tt (getD_ft (hall e he hb))
  · rw [getD_set_ne true (Ne.symm hji)] at hj
    exact getD_tt (hc j o ho hj e he hb)
theorem Closed.start {ops : Array Oper} : Closed ops (Array.replicate ops.size false) := by
  intro j o ho hj
  have := (Array.getElem?_eq_some_iff.1 ho).1
  rw [Array.getD_eq_getD_getElem?] at hj
  simp [this] at hj
theorem depT_no {ops : Array Oper} {listed : Array Bool} {i : Nat} (hc : Closed ops listed) (hi : listed.getD i true = false) : ∀ (d j : Nat), (∀ o, ops[j]? = some o → ∀ e ∈ o.after, Region.binds .any e = true → listed.getD e.on true = true) → depT ops d j i = false := by
  have base : ∀ j, (∀ o, ops[j]? = some o → ∀ e ∈ o.after, Region.binds .any e = true → listed.getD e.on true = true) → depOn ops j i = false := by
    intro j h
    unfold depOn
    cases ho : ops[j]? with
    | none => rfl
    | some o =>
      simp only [Option.map_some, Option.getD_some]
      cases hany : o.after.any fun e => Region.binds .any e && e.on == i with
      | false => rfl
      | true =>
        rw [Array.any_eq_true] at hany
        obtain ⟨k, hk, he⟩ := hany
        simp only [Bool.and_eq_true, beq_iff_eq] at he
        have := h o ho _ (Array.getElem_mem hk) he.1
        rw [he.2, hi] at this; cases this
  intro d
  induction d with
  | zero => exact base
  | succ d ih =>
    intro j h
    unfold depT
    rw [base j h, Bool.false_or]
    cases ho : ops[j]? with
    | none => rfl
    | some o =>
      simp only
      cases hany : o.after.any fun e => Region.binds .any e && depT ops d e.on i with
      | false => rfl
      | true =>
        rw [Array.any_eq_true] at hany
        obtain ⟨k, hk, he⟩ := hany
        simp only [Bool.and_eq_true] at he
        have h1 := h o ho _ (Array.getElem_mem hk) he.1
        rw [ih _ (fun o' ho' => hc _ o' ho' h1)] at he
        cases he.2
abbrev depD : Nat := 2

def wpAnyS (P : Program) (ops : Array Oper) (Q : Exit → Act → World → Prop) : Nat → Array Bool → List (Nat × (World → Prop)) → Act → World → Prop
  | 0, listed, pend, a, w => Closed ops listed → (∀ p ∈ pend, p.2 w) ∧ Region.ready .any ops listed = [] ∧ Q .normal a w
  | fuel + 1, listed, pend, a, w => Closed ops listed → (∀ p ∈ pend, p.2 w) ∧ (Region.ready .any ops listed = [] → Q .normal a w) ∧
    ∀ i ∈ Region.ready .any ops listed, wpOp P ops Q i (wpAnyS P ops Q fuel (listed.setIfInBounds i true) (pend.filter fun p => !depT ops depD i p.1)) a w

section
variable {P : Program} {ops : Array Oper} {Q : Exit → Act → World → Prop}
theorem wpAnyS_inv {fuel : Nat} {listed : Array Bool} {pend : List (Nat × (World → Prop))} {a : Act} {w : World} (h : wpAnyS P ops Q fuel listed pend a w) (hc : Closed ops listed) : ∀ p ∈ pend, p.2 w := by
  cases fuel <;> exact (h hc).1
theorem wpAnyS_sub : ∀ (fuel : Nat) (listed : Array Bool) (pend pend' : List (Nat × (World → Prop))) (a : Act) (w : World), (∀ p ∈ pend', p ∈ pend) → wpAnyS P ops Q fuel listed pend a w → wpAnyS P ops Q fuel listed pend' a w
  | 0, _, _, _, _, _, hs, h => fun hc => ⟨fun p hp => (h hc).1 p (hs p hp), (h hc).2⟩
  | fuel + 1, _, pend, pend', _, _, hs, h => fun hc => ⟨fun p hp => (h hc).1 p (hs p hp), (h hc).2.1, fun i hi => wpOp_mono (fun a' w' h' => wpAnyS_sub fuel _ _ _ a' w' (fun p hp => by
      simp only [List.mem_filter] at hp ⊢; exact ⟨hs p hp.1, hp.2⟩) h') ((h hc).2.2 i hi)⟩
theorem wpAny_of_S : ∀ (fuel : Nat) (listed : Array Bool) (pend : List (Nat × (World → Prop))) (a : Act) (w : World), Closed ops listed → wpAnyS P ops Q fuel listed pend a w → wpAny P .any ops Q fuel listed a w
  | 0, _, _, _, _, hc, h => (h hc).2
  | fuel + 1, _, _, _, _, hc, h => ⟨(h hc).2.1, fun i hi => wpOp_mono (fun a' w' h' => wpAny_of_S fuel _ _ a' w' (hc.set hi) h') ((h hc).2.2 i hi)⟩

theorem wpAnyS_first {i : Nat} {oi : Oper} {v : Value} {S : World → Prop} (hi : ops[i]? = some oi) (hsel : ∀ (j : Nat) (o : Oper) cs b, ops[j]? = some o → o.op ≠ .select cs b)
    (hQ : ∀ c a w, Q (.panic c) (a.put oi.dst v) w → Q (.panic c) a w) :
    ∀ (fuel : Nat) (listed : Array Bool) (pend : List (Nat × (World → Prop))) (a : Act) (w : World),
      (∀ j oj, ops[j]? = some oj → j ≠ i → listed.getD j true = false → (∀ e ∈ oj.after, Region.binds .any e = true → e.on ≠ i) → oi.apart ops oj = true) →
      i ∈ Region.ready .any ops listed → YieldsIf P ops S oi v a → S w →
      wpAnyS P ops Q fuel (listed.setIfInBounds i true) ((i, S) :: pend) (a.put oi.dst v) w → wpAnyS P ops Q (fuel + 1) listed pend a w := by
  intro fuel
  induction fuel with
  | zero =>
    intro listed pend a w _ hr hy hS H hc
    have H' := H (hc.set hr)
    refine ⟨fun p hp => H'.1 p (List.mem_cons_of_mem _ hp), fun h => (by rw [h] at hr; cases hr), fun j hj => ?_⟩
    by_cases hji : j = i
    · subst hji
      exact hy.wpOp hi hS (wpAnyS_sub _ _ _ _ _ _ (fun p hp => List.mem_cons_of_mem _ (List.mem_filter.1 hp).1) H)
    · have := ready_mono hj hji
      rw [H'.2.1] at this
      cases this
  | succ fuel ih =>
    intro listed pend a w hfree hr hy hS H hc
    have H' := H (hc.set hr)
    refine ⟨fun p hp => H'.1 p (List.mem_cons_of_mem _ hp), fun h => (by rw [h] at hr; cases hr), fun j hj => ?_⟩
    by_cases hji : j = i
    · subst hji
      exact hy.wpOp hi hS (wpAnyS_sub _ _ _ _ _ _ (fun p hp => List.mem_cons_of_mem _ (List.mem_filter.1 hp).1) H)
    · have h1 := H'.2.2 j (ready_mono hj hji)
      obtain ⟨hjun, oj, hoj, hall⟩ := mem_ready.1 hj
      have hnot : ∀ e ∈ oj.after, Region.binds .any e = true → e.on ≠ i := fun e he hb heq => by
        have h1 := hall e he hb
        have h0 := (mem_ready.1 hr).1
        rw [heq] at h1
        rcases Nat.lt_or_ge i listed.size with h' | h'
        · simp [h'] at h0 h1; rw [h0] at h1; cases h1
        · simp [Array.getElem?_eq_none h'] at h1
      have hdep : depT ops depD j i = false := depT_no hc (mem_ready.1 hr).1 depD j fun o ho e he hb => by
        rw [hoj] at ho; cases ho
        exact getD_ft (hall e he hb)
      have hfil : ((i, S) :: pend).filter (fun p => !depT ops depD j p.1) = (i, S) :: pend.filter (fun p => !depT ops depD j p.1) := by
        rw [List.filter_cons]; simp [hdep]
      rw [hfil] at h1
      have h2 := wpOp_putIf hoj (hfree j oj hoj hji hjun hnot) (fun cs b => hsel i oi cs b hi) (fun cs b => hsel j oj cs b hoj) hQ hy h1
      have hfree' : ∀ k ok, ops[k]? = some ok → k ≠ i → (listed.setIfInBounds j true).getD k true = false →
          (∀ e ∈ ok.after, Region.binds .any e = true → e.on ≠ i) → oi.apart ops ok = true := fun k ok hk hki hun hno => by
        refine hfree k ok hk hki ?_ hno
        by_cases hjk : j = k
        · subst hjk; exact hjun
        · rw [getD_set_ne true hjk] at hun; exact hun
      have hc2 := (hc.set hr).set (ready_mono hj hji)
      refine wpOp_mono (fun a' w' h3 => ih (listed.setIfInBounds j true) _ a' w' hfree' (ready_mono hr (Ne.symm hji)) h3.1 (wpAnyS_inv h3.2 hc2 (i, S) (List.mem_cons_self ..)) ?_) h2
      rw [Array.setIfInBounds_comm _ _ hji]
      exact h3.2
end

abbrev Pend := List (Nat × List HP)
def Pend.w (β : Base) (pend : Pend) : List (Nat × (World → Prop)) := pend.map fun p => (p.1, Sat β p.2)

def RunD (P : Program) (β : Base) (n : Nat) (ops : Array Oper) (fuel : Nat) (listed : Array Bool) (pend : Pend) (E : Env) (L : List HP) (K : Env → List HP → Prop) : Prop :=
  ∀ a w, AOk n E a → Sat β L w → (∀ p ∈ pend, Sat β p.2 w) → ∀ Q : Exit → Act → World → Prop, (∀ c a w, ¬ Q (.panic c) a w) → (∀ a' w' E' L', K E' L' → AOk n E' a' → Sat β L' w' → Q .normal a' w') →
    wpAnyS P ops Q fuel listed (pend.w β) a w

section
variable {P : Program} {β : Base} {n : Nat} {ops : Array Oper} {fuel : Nat} {listed : Array Bool} {pend : Pend} {E : Env} {L L' Ls M : List HP} {K : Env → List HP → Prop} {Q : Po}

theorem regionD {id : Nat} (hm : P.follows .mixedOrders = true) (h : RunD P β n ops ops.size (Array.replicate ops.size false) [] E L fun E' L' => Q .normal E' L') : Run P β n (.region id ops true) E L Q := fun a w ha hs => Run.ofL fun r ds hf => by
  have h1 := h a { w with drawn := w.drawn + 1 } ha (Has.drew hs) (by simp) (fun e a w => e = .normal ∧ post β n Q .normal a w) (fun _ _ _ h => by cases h.1) (fun a' w' E' L' hK ha' hs' => ⟨rfl, E', L', hK, ha', hs'⟩)
  refine wpIn_region_draw fun t => ?_
  simp only [Region.schedule, hm, Bool.true_or, if_true]
  exact wpOps_in hf (fun e a w => post.nil) _ a _ (wpAny_sound ops.size t _ a _ (wpAny_of_S _ _ _ _ _ Closed.start h1))

theorem RunD.done (hr : Region.ready .any ops listed = []) (h : K E L) : RunD P β n ops fuel listed pend E L K := fun a w ha hs hp Q hnp hQ => by
  have hinv : ∀ p ∈ pend.w β, p.2 w := by
    intro p hpm
    simp only [Pend.w, List.mem_map] at hpm
    obtain ⟨q, hq, rfl⟩ := hpm
    exact hp q hq
  have hn := hQ a w E L h ha hs
  cases fuel with
  | zero => exact fun _ => ⟨hinv, hr, hn⟩
  | succ f => exact fun _ => ⟨hinv, fun _ => hn, fun i hi => by rw [hr] at hi; cases hi⟩

theorem RunD.take (i : Nat) {o : Oper} {v : Value} (hi : ops[i]? = some o) (hg : o.guard = none) (hd : dstOk n o.dst = true) (hchk : (Region.noSelect ops && Region.free .any ops listed i && (Region.ready .any ops listed).contains i) = true)
    (hy : DetJ P β E Ls o v) (gv : Gives L Ls) (h : RunD P β n ops fuel (listed.setIfInBounds i true) ((i, Ls) :: pend) (E.put o.dst v) L K) : RunD P β n ops (fuel + 1) listed pend E L K := fun a w ha hs hp Q hnp hQ => by
  simp only [Bool.and_eq_true] at hchk
  have hsl := hs.gives gv
  refine wpAnyS_first hi (Region.noSelect_spec hchk.1.1) (fun c a w h => absurd h (hnp _ _ _)) fuel listed (pend.w β) a w (Region.free_spec hi hchk.1.2) (by simpa using hchk.2) (.inl ⟨by simp [Region.wanted, hg], fun w' hs' => hy a w' ha.env hs'⟩) hsl ?_
  exact h (a.put o.dst v) w (ha.put (dstOk_spec hd) v) hs (fun p hp' => by
    rcases List.mem_cons.1 hp' with rfl | h'
    · exact hsl
    · exact hp p h') Q hnp hQ
theorem RunD.takeG (i : Nat) {o : Oper} {v : Value} {j : Nat} {b : Bool} {gd : Tmp} (hi : ops[i]? = some o) (hg : o.guard = some (j, b)) (hj : (ops[j]?).bind (·.dst) = some gd) (hb : E.get gd = some (.bool b)) (hd : dstOk n o.dst = true) (hchk : (Region.noSelect ops && Region.free .any ops listed i && (Region.ready .any ops listed).contains i) = true)
    (hy : DetJ P β E Ls o v) (gv : Gives L Ls) (h : RunD P β n ops fuel (listed.setIfInBounds i true) ((i, Ls) :: pend) (E.put o.dst v) L K) : RunD P β n ops (fuel + 1) listed pend E L K := fun a w ha hs hp Q hnp hQ => by
  simp only [Bool.and_eq_true] at hchk
  have hsl := hs.gives gv
  refine wpAnyS_first hi (Region.noSelect_spec hchk.1.1) (fun c a w h => absurd h (hnp _ _ _)) fuel listed (pend.w β) a w (Region.free_spec hi hchk.1.2) (by simpa using hchk.2) (.inl ⟨by simp [Region.wanted, hg, yielded_of ha hj hb], fun w' hs' => hy a w' ha.env hs'⟩) hsl ?_
  exact h (a.put o.dst v) w (ha.put (dstOk_spec hd) v) hs (fun p hp' => by
    rcases List.mem_cons.1 hp' with rfl | h'
    · exact hsl
    · exact hp p h') Q hnp hQ
theorem RunD.takeN (i : Nat) {o : Oper} {j : Nat} {b : Bool} {gd : Tmp} (hi : ops[i]? = some o) (hg : o.guard = some (j, b)) (hj : (ops[j]?).bind (·.dst) = some gd) (hb : E.get gd = some (.bool (!b))) (hd : dstOk n o.dst = true) (hchk : (Region.noSelect ops && Region.free .any ops listed i && (Region.ready .any ops listed).contains i) = true)
    (h : RunD P β n ops fuel (listed.setIfInBounds i true) ((i, []) :: pend) (E.put o.dst undef) L K) : RunD P β n ops (fuel + 1) listed pend E L K := fun a w ha hs hp Q hnp hQ => by
  simp only [Bool.and_eq_true] at hchk
  have hsl : Sat β [] w := hs.gives .nil
  refine wpAnyS_first hi (Region.noSelect_spec hchk.1.1) (fun c a w h => absurd h (hnp _ _ _)) fuel listed (pend.w β) a w (Region.free_spec hi hchk.1.2) (by simpa using hchk.2) (.inr ⟨by simp [Region.wanted, hg, yielded_of ha hj hb], rfl⟩) hsl ?_
  exact h (a.put o.dst undef) w (ha.put (dstOk_spec hd) undef) hs (fun p hp' => by
    rcases List.mem_cons.1 hp' with rfl | h'
    · exact hsl
    · exact hp p h') Q hnp hQ

def PendOk (pend : Pend) (L : List HP) : Prop := ∀ p ∈ pend, Gives L p.2
theorem PendOk.nil {L : List HP} : PendOk [] L := fun _ h => by cases h
theorem PendOk.cons {p : Nat × List HP} {pend : Pend} {L : List HP} (h : Gives L p.2) (hs : PendOk pend L) : PendOk (p :: pend) L := fun q hq => by
  rcases List.mem_cons.1 hq with rfl | h'
  · exact h
  · exact hs q h'

def applyMask : List Bool → Pend → Pend
  | true :: m, p :: ps => p :: applyMask m ps
  | false :: m, _ :: ps => applyMask m ps
  | _, _ => []
def maskOk (ops : Array Oper) (i : Nat) : List Nat → List Bool → Bool
  | [], _ => true
  | j :: js, b :: bs => (b || depT ops depD i j) && maskOk ops i js bs
  | _ :: _, [] => false
theorem maskOk_spec {i : Nat} : ∀ {pend : Pend} {mask : List Bool}, maskOk ops i (pend.map (·.1)) mask = true → ∀ p ∈ pend, depT ops depD i p.1 = false → p ∈ applyMask mask pend
  | [], _, _, p, hp, _ => by cases hp
  | q :: pend, [], h, _, _, _ => by simp [maskOk] at h
  | q :: pend, b :: mask, h, p, hp, hd => by
    simp only [List.map_cons, maskOk, Bool.and_eq_true, Bool.or_eq_true] at h
    rcases List.mem_cons.1 hp with rfl | hp'
    · rcases h.1 with h1 | h1
      · subst h1; simp [applyMask]
      · rw [hd] at h1; cases h1
    · have ih := maskOk_spec h.2 p hp' hd
      cases b
      · simpa [applyMask] using ih
      · simp only [applyMask]; exact List.mem_cons_of_mem _ ih

theorem RunD.opAt {j : Nat} {o : Oper} {mask : List Bool} {a : Act} {w : World} (hi : ops[j]? = some o) (hg : o.guard = none) (hd : dstOk n o.dst = true) (hm : maskOk ops j (pend.map (·.1)) mask = true)
    (h : OpJ P β E L o fun v L' => PendOk (applyMask mask pend) L' ∧ RunD P β n ops fuel (listed.setIfInBounds j true) (applyMask mask pend) (E.put o.dst v) L' K) (ha : AOk n E a) (hs : Sat β L w) {Q : Exit → Act → World → Prop} (hnp : ∀ c a w, ¬ Q (.panic c) a w)
    (hQ : ∀ a' w' E' L', K E' L' → AOk n E' a' → Sat β L' w' → Q .normal a' w') : wpOp P ops Q j (wpAnyS P ops Q fuel (listed.setIfInBounds j true) ((pend.w β).filter fun p => !depT ops depD j p.1)) a w := by
  unfold wpOp
  rw [hi]
  have hw : Region.wanted o (yielded ops a.tmps) = true := by simp [Region.wanted, hg]
  simp only [hw, if_true]
  refine .inl (h a w ha.env hs _ _ fun v L' w' ⟨hpo, hK⟩ hs' => ?_)
  refine wpAnyS_sub _ _ _ _ _ _ ?_ (hK (a.put o.dst v) w' (ha.put (dstOk_spec hd) v) hs' (fun p hpm => hs'.gives (hpo p hpm)) Q hnp hQ)
  intro p hp
  rw [List.mem_filter] at hp
  obtain ⟨hp1, hp2⟩ := hp
  simp only [Pend.w, List.mem_map] at hp1 ⊢
  obtain ⟨q, hq, rfl⟩ := hp1
  exact ⟨q, maskOk_spec hm q hq (by simpa using hp2), rfl⟩

theorem RunD.op (i : Nat) (mask : List Bool) {o : Oper} (hi : ops[i]? = some o) (hg : o.guard = none) (hd : dstOk n o.dst = true) (hr : Region.ready .any ops listed = [i]) (hm : maskOk ops i (pend.map (·.1)) mask = true)
    (h : OpJ P β E L o fun v L' => PendOk (applyMask mask pend) L' ∧ RunD P β n ops fuel (listed.setIfInBounds i true) (applyMask mask pend) (E.put o.dst v) L' K) : RunD P β n ops (fuel + 1) listed pend E L K := fun a w ha hs hp Q hnp hQ => by
  intro hc0
  refine ⟨?_, fun h0 => (by rw [hr] at h0; cases h0), fun j hj => ?_⟩
  · intro p hpm
    simp only [Pend.w, List.mem_map] at hpm
    obtain ⟨q, hq, rfl⟩ := hpm
    exact hp q hq
  · rw [hr] at hj
    obtain rfl : j = i := by simpa using hj
    exact RunD.opAt hi hg hd hm h ha hs hnp hQ
theorem RunD.two (i j : Nat) (mi mj : List Bool) {o o' : Oper} (hi : ops[i]? = some o) (hg : o.guard = none) (hd : dstOk n o.dst = true) (hi' : ops[j]? = some o') (hg' : o'.guard = none) (hd' : dstOk n o'.dst = true) (hr : Region.ready .any ops listed = [i, j])
    (hm : maskOk ops i (pend.map (·.1)) mi = true) (hm' : maskOk ops j (pend.map (·.1)) mj = true)
    (h : OpJ P β E L o fun v L' => PendOk (applyMask mi pend) L' ∧ RunD P β n ops fuel (listed.setIfInBounds i true) (applyMask mi pend) (E.put o.dst v) L' K)
    (h' : OpJ P β E L o' fun v L' => PendOk (applyMask mj pend) L' ∧ RunD P β n ops fuel (listed.setIfInBounds j true) (applyMask mj pend) (E.put o'.dst v) L' K) : RunD P β n ops (fuel + 1) listed pend E L K := fun a w ha hs hp Q hnp hQ => by
  intro hc0
  refine ⟨?_, fun h0 => (by rw [hr] at h0; cases h0), fun k hk => ?_⟩
  · intro p hpm
    simp only [Pend.w, List.mem_map] at hpm
    obtain ⟨q, hq, rfl⟩ := hpm
    exact hp q hq
  · rw [hr] at hk
    rcases List.mem_cons.1 hk with rfl | hk
    · exact RunD.opAt hi hg hd hm h ha hs hnp hQ
    · obtain rfl : k = j := by simpa using hk
      exact RunD.opAt hi' hg' hd' hm' h' ha hs hnp hQ

theorem RunD.three (i j l : Nat) (mi mj ml : List Bool) {o o' o'' : Oper} (hi : ops[i]? = some o) (hg : o.guard = none) (hd : dstOk n o.dst = true) (hi' : ops[j]? = some o') (hg' : o'.guard = none) (hd' : dstOk n o'.dst = true)
    (hi'' : ops[l]? = some o'') (hg'' : o''.guard = none) (hd'' : dstOk n o''.dst = true) (hr : Region.ready .any ops listed = [i, j, l])
    (hm : maskOk ops i (pend.map (·.1)) mi = true) (hm' : maskOk ops j (pend.map (·.1)) mj = true) (hm'' : maskOk ops l (pend.map (·.1)) ml = true)
    (h : OpJ P β E L o fun v L' => PendOk (applyMask mi pend) L' ∧ RunD P β n ops fuel (listed.setIfInBounds i true) (applyMask mi pend) (E.put o.dst v) L' K)
    (h' : OpJ P β E L o' fun v L' => PendOk (applyMask mj pend) L' ∧ RunD P β n ops fuel (listed.setIfInBounds j true) (applyMask mj pend) (E.put o'.dst v) L' K)
    (h'' : OpJ P β E L o'' fun v L' => PendOk (applyMask ml pend) L' ∧ RunD P β n ops fuel (listed.setIfInBounds l true) (applyMask ml pend) (E.put o''.dst v) L' K) : RunD P β n ops (fuel + 1) listed pend E L K := fun a w ha hs hp Q hnp hQ => by
  intro hc0
  refine ⟨?_, fun h0 => (by rw [hr] at h0; cases h0), fun k hk => ?_⟩
  · intro p hpm
    simp only [Pend.w, List.mem_map] at hpm
    obtain ⟨q, hq, rfl⟩ := hpm
    exact hp q hq
  · rw [hr] at hk
    rcases List.mem_cons.1 hk with rfl | hk
    · exact RunD.opAt hi hg hd hm h ha hs hnp hQ
    · rcases List.mem_cons.1 hk with rfl | hk
      · exact RunD.opAt hi' hg' hd' hm' h' ha hs hnp hQ
      · obtain rfl : k = l := by simpa using hk
        exact RunD.opAt hi'' hg'' hd'' hm'' h'' ha hs hnp hQ
theorem RunD.mono {K' : Env → List HP → Prop} (h : RunD P β n ops fuel listed pend E L K') (hk : ∀ E' L', K' E' L' → K E' L') : RunD P β n ops fuel listed pend E L K :=
  fun a w ha hs hp Q hnp hQ => h a w ha hs hp Q hnp fun a' w' E' L' hK' ha' hs' => hQ a' w' E' L' (hk _ _ hK') ha' hs'

theorem RunD.mapL (h : ∀ w, Sat β L w → Sat β L' w) (r : RunD P β n ops fuel listed pend E L' K) : RunD P β n ops fuel listed pend E L K := fun a w ha hs hp Q hnp hQ => r a w ha (h w hs) hp Q hnp hQ
theorem RunD.hex {α : Type} {A : α → HP} (h : ∀ x, RunD P β n ops fuel listed pend E (A x :: L) K) : RunD P β n ops fuel listed pend E (SL.hex A :: L) K := fun a w ha hs hp Q hnp hQ => by
  obtain ⟨⟨hh, ⟨h1, h2, hd, rfl, ⟨x, hx⟩, hb⟩, hsub, hown⟩, hr⟩ := hs
  exact h x a w ha ⟨⟨_, ⟨h1, h2, hd, rfl, hx, hb⟩, hsub, hown⟩, hr⟩ hp Q hnp hQ
theorem RunD.lift {p : Prop} {A : HP} (h : p → RunD P β n ops fuel listed pend E (A :: L) K) : RunD P β n ops fuel listed pend E (SL.lift p A :: L) K := fun a w ha hs hp Q hnp hQ => by
  obtain ⟨⟨hh, ⟨h1, h2, hd, rfl, ⟨hpp, hx⟩, hb⟩, hsub, hown⟩, hr⟩ := hs
  exact h hpp a w ha ⟨⟨_, ⟨h1, h2, hd, rfl, hx, hb⟩, hsub, hown⟩, hr⟩ hp Q hnp hQ
theorem RunD.flat {As : List HP} (h : RunD P β n ops fuel listed pend E (As ++ L) K) : RunD P β n ops fuel listed pend E (stars As :: L) K :=
  RunD.mapL (fun w hs => Has.mono hs fun _ => stars_append) h
theorem RunD.weak {E' : Env} {L' : List HP} (he : ∀ t v, E'.get t = some v → E.get t = some v) (hl : Gives L L') (h : RunD P β n ops fuel listed pend E' L' K) : RunD P β n ops fuel listed pend E L K :=
  fun a w ha hs hp Q hnp hQ => h a w (ha.sub he) (hs.gives hl) hp Q hnp hQ
theorem RunD.keep {ks : List Nat} {E' : Env} (hr : Region.ready .any ops listed = []) (hk : Keep ks E E') (h : K E' L) : RunD P β n ops fuel listed pend E L K := fun a w ha hs hp Q hnp hQ =>
  RunD.done hr h a w (ha.sub hk.sub) hs hp Q hnp hQ
theorem RunD.post {L' : List HP} (h : PendOk pend L' ∧ RunD P β n ops fuel listed pend E L' K) : PendOk pend L' ∧ RunD P β n ops fuel listed pend E L' K := h

section
variable {d : Option Tmp} {ty : TypeId} {pos : String} {af : Array Edge} {F As : List HP}
theorem Gives.flat {L M As : List HP} (h : Gives (As ++ L) M) : ∀ w, Sat β (stars As :: L) w → Sat β M w := fun w hs => Sat.gives h (Has.mono hs fun _ => stars_append)
theorem OpJ.callRet {g : Option (Nat × Bool)} {K : Value → List HP → Prop} {f : FuncId} {x : Operand} {xs : List Operand} {ats : Array TypeId} {vs first cap : List Value} {r0 : Value} {Bs : List HP} (C : CI P f)
    (hx : E.ev x = some (.func (.func f) ⟨first⟩ ⟨cap⟩)) (hxs : E.evs xs = some vs) (hc : AC P f ⟨first ++ vs ++ cap⟩ (stars As) (Ret r0 Bs)) (tk : Takes L As F) (h : K r0 (Bs ++ F)) : OpJ P β E L ⟨d, .call ⟨.value x, ⟨xs⟩, ats⟩, ty, pos, af, g⟩ K := fun a w ha hs next Q' hn =>
  OpJ.call (K := fun r L' => L' = Ret r0 Bs r :: F) C hx hxs hc tk (fun r => rfl) a w ha hs next Q' fun v L' w' hK hs' => by
    subst hK
    obtain ⟨⟨hh, ⟨h1, h2, hd, rfl, ⟨hpp, hx⟩, hb⟩, hsub, hown⟩, hrr⟩ := hs'
    subst hpp
    exact hn _ _ w' h ⟨⟨_, stars_append ⟨h1, h2, hd, rfl, hx, hb⟩, hsub, hown⟩, hrr⟩
theorem OpJ.callOuts {g : Option (Nat × Bool)} {K : Value → List HP → Prop} {α : Type} {f : FuncId} {x : Operand} {xs : List Operand} {ats : Array TypeId} {vs first cap : List Value} {φ : α → Prop} {R : α → Value} {Bs : α → List HP} (C : CI P f)
    (hx : E.ev x = some (.func (.func f) ⟨first⟩ ⟨cap⟩)) (hxs : E.evs xs = some vs) (hc : AC P f ⟨first ++ vs ++ cap⟩ (stars As) (Outs φ R Bs)) (tk : Takes L As F) (h : ∀ x, φ x → K (R x) (Bs x ++ F)) : OpJ P β E L ⟨d, .call ⟨.value x, ⟨xs⟩, ats⟩, ty, pos, af, g⟩ K := fun a w ha hs next Q' hn =>
  OpJ.call (K := fun r L' => L' = Outs φ R Bs r :: F) C hx hxs hc tk (fun r => rfl) a w ha hs next Q' fun v L' w' hK hs' => by
    subst hK
    obtain ⟨⟨hh, ⟨h1, h2, hd, rfl, ⟨x, hpp, hx⟩, hb⟩, hsub, hown⟩, hrr⟩ := hs'
    obtain ⟨hφ, rfl⟩ := hpp
    exact hn _ _ w' (h x hφ) ⟨⟨_, stars_append ⟨h1, h2, hd, rfl, hx, hb⟩, hsub, hown⟩, hrr⟩
end

theorem RunD.takeF (i : Nat) {m b off : Nat} {cs : List Value} {bt : TypeId} {v : Value} {x : Operand} {t : TypeId} {d : Option Tmp} {ty : TypeId} {pos : String} {af : Array Edge} (hi : ops[i]? = some ⟨d, .load t x, ty, pos, af, none⟩) (hd : dstOk n d = true)
    (hchk : (Region.noSelect ops && Region.free .any ops listed i && (Region.ready .any ops listed).contains i) = true) (T : TI P t false m) (hx : E.ev x = some (.pointer (some ⟨b, off, none⟩))) (p : Pick L (pt b (blk cs bt)) M) (hv : cs[off]? = some v)
    (h : RunD P β n ops fuel (listed.setIfInBounds i true) ((i, [pt b (blk cs bt)]) :: pend) (E.put d v) L K) : RunD P β n ops (fuel + 1) listed pend E L K :=
  RunD.take (Ls := [pt b (blk cs bt)]) i hi rfl hd hchk (DetJ.load1 T hx .here (Rd.one hv)) (.cons p .nil) h
theorem RunD.takeW (i : Nat) {m b : Nat} {cs : List Value} {bt : TypeId} {x : Operand} {t : TypeId} {d : Option Tmp} {ty : TypeId} {pos : String} {af : Array Edge} (hi : ops[i]? = some ⟨d, .load t x, ty, pos, af, none⟩) (hd : dstOk n d = true)
    (hchk : (Region.noSelect ops && Region.free .any ops listed i && (Region.ready .any ops listed).contains i) = true) (T : TI P t true m) (hx : E.ev x = some (.pointer (some ⟨b, 0, none⟩))) (p : Pick L (pt b (blk cs bt)) M) (hn : cs.length = m)
    (h : RunD P β n ops fuel (listed.setIfInBounds i true) ((i, [pt b (blk cs bt)]) :: pend) (E.put d (.agg ⟨cs⟩)) L K) : RunD P β n ops (fuel + 1) listed pend E L K :=
  RunD.take (Ls := [pt b (blk cs bt)]) i hi rfl hd hchk (DetJ.loadA T hx .here Rd.whole hn) (.cons p .nil) h
theorem RunD.takeP (i : Nat) {m b off : Nat} {cs : List Value} {bt : TypeId} {x : Operand} {t : TypeId} {d : Option Tmp} {ty : TypeId} {pos : String} {af : Array Edge} (hi : ops[i]? = some ⟨d, .load t x, ty, pos, af, none⟩) (hd : dstOk n d = true)
    (hchk : (Region.noSelect ops && Region.free .any ops listed i && (Region.ready .any ops listed).contains i) = true) (T : TI P t true m) (hx : E.ev x = some (.pointer (some ⟨b, off, none⟩))) (p : Pick L (pt b (blk cs bt)) M) (hn : off + m ≤ cs.length)
    (h : RunD P β n ops fuel (listed.setIfInBounds i true) ((i, [pt b (blk cs bt)]) :: pend) (E.put d (.agg ⟨(cs.drop off).take m⟩)) L K) : RunD P β n ops (fuel + 1) listed pend E L K :=
  RunD.take (Ls := [pt b (blk cs bt)]) i hi rfl hd hchk (DetJ.loadA T hx .here Rd.part (by simp; omega)) (.cons p .nil) h
theorem RunD.takeR (i : Nat) {m : Nat} {ad : Addr} {R : HP} {vs : List Value} {x : Operand} {t : TypeId} {d : Option Tmp} {ty : TypeId} {pos : String} {af : Array Edge} (hi : ops[i]? = some ⟨d, .load t x, ty, pos, af, none⟩) (hd : dstOk n d = true)
    (hchk : (Region.noSelect ops && Region.free .any ops listed i && (Region.ready .any ops listed).contains i) = true) (T : TI P t true m) (hx : E.ev x = some (.pointer (some ad))) (p : Pick L R M) (hr : Rd R ad vs) (hn : vs.length = m)
    (h : RunD P β n ops fuel (listed.setIfInBounds i true) ((i, [R]) :: pend) (E.put d (.agg ⟨vs⟩)) L K) : RunD P β n ops (fuel + 1) listed pend E L K :=
  RunD.take (Ls := [R]) i hi rfl hd hchk (DetJ.loadA T hx .here hr hn) (.cons p .nil) h
theorem RunD.takeB (i : Nat) {zs : List Value} {places : List (Nat × Nat)} {xs : List (Nat × Operand)} {ps : List (Nat × Value)} {t : TypeId} {d : Option Tmp} {ty : TypeId} {pos : String} {af : Array Edge} (hi : ops[i]? = some ⟨d, .build t ⟨xs⟩, ty, pos, af, none⟩) (hd : dstOk n d = true)
    (hchk : (Region.noSelect ops && Region.free .any ops listed i && (Region.ready .any ops listed).contains i) = true) (B : BI P t zs places) (hx : E.evp xs = some ps) (hs : (bldL places zs ps).isSome = true)
    (h : ∀ cs, bldL places zs ps = some cs → RunD P β n ops fuel (listed.setIfInBounds i true) ((i, []) :: pend) (E.put d (.agg ⟨cs⟩)) L K) : RunD P β n ops (fuel + 1) listed pend E L K := by
  obtain ⟨cs, hcs⟩ := Option.isSome_iff_exists.1 hs
  exact RunD.take (Ls := []) i hi rfl hd hchk (fun a w ha _ => run_build B hx hcs ha) .nil (h cs hcs)
theorem RunD.takeR1 (i : Nat) {m : Nat} {ad : Addr} {R : HP} {v : Value} {x : Operand} {t : TypeId} {d : Option Tmp} {ty : TypeId} {pos : String} {af : Array Edge} (hi : ops[i]? = some ⟨d, .load t x, ty, pos, af, none⟩) (hd : dstOk n d = true)
    (hchk : (Region.noSelect ops && Region.free .any ops listed i && (Region.ready .any ops listed).contains i) = true) (T : TI P t false m) (hx : E.ev x = some (.pointer (some ad))) (p : Pick L R M) (hr : Rd R ad [v])
    (h : RunD P β n ops fuel (listed.setIfInBounds i true) ((i, [R]) :: pend) (E.put d v) L K) : RunD P β n ops (fuel + 1) listed pend E L K :=
  RunD.take (Ls := [R]) i hi rfl hd hchk (DetJ.load1 T hx .here hr) (.cons p .nil) h

section
variable {x : Operand} {t : TypeId} {d : Option Tmp} {ty : TypeId} {pos : String} {af : Array Edge} {g : Option (Nat × Bool)}
theorem DetJ.loadF {n b off : Nat} {cs : List Value} {bt : TypeId} {v : Value} (T : TI P t false n) (hx : E.ev x = some (.pointer (some ⟨b, off, none⟩))) (p : Pick L (pt b (blk cs bt)) M) (hv : cs[off]? = some v) : DetJ P β E L ⟨d, .load t x, ty, pos, af, g⟩ v :=
  DetJ.load1 T hx p (Rd.one hv)
theorem DetJ.loadW {n b : Nat} {cs : List Value} {bt : TypeId} (T : TI P t true n) (hx : E.ev x = some (.pointer (some ⟨b, 0, none⟩))) (p : Pick L (pt b (blk cs bt)) M) (hn : cs.length = n) : DetJ P β E L ⟨d, .load t x, ty, pos, af, g⟩ (.agg ⟨cs⟩) :=
  DetJ.loadA T hx p Rd.whole hn
theorem DetJ.loadP {n b off : Nat} {cs : List Value} {bt : TypeId} (T : TI P t true n) (hx : E.ev x = some (.pointer (some ⟨b, off, none⟩))) (p : Pick L (pt b (blk cs bt)) M) (hn : off + n ≤ cs.length) : DetJ P β E L ⟨d, .load t x, ty, pos, af, g⟩ (.agg ⟨(cs.drop off).take n⟩) :=
  DetJ.loadA T hx p Rd.part (by simp; omega)
end
end

@[reducible] def scopePo (Q : Po) : Po
  | .goto _, _, _ => False
  | e, E, L => Q e E L
theorem Run.scope {P : Program} {β : Base} {n : Nat} {c : Code} {E : Env} {L : List HP} {Q : Po} (h : Run P β n c E L (scopePo Q)) : Run P β n (.scope c) E L Q := fun a w ha hs r ds hf => by
  intro b k cs hro hb hroom
  obtain ⟨e, a1, w1, hp, harr⟩ := h a w ha hs r ds hf b (.inScope c :: k) cs hro hb hroom
  have h1 : step P (lone (b.atR { a with defers := ds } (.code (.scope c) :: k)) cs w) = .next (lone (b.atR { a with defers := ds } (.code c :: .inScope c :: k)) cs w) := step_lone_go (by simp [stepG, stepG.exec, Frame.atR])
  have h2 : ∀ a w, step P (lone (b.atR a (.inScope c :: k)) cs w) = .next (lone (b.atR a k) cs w) := fun a w => step_lone_go (by simp [stepG, stepG.exec, Frame.atR])
  have s1 : StepsIn (Machine.fenced P (Wr r)) P (lone (b.atR { a with defers := ds } (.code (.scope c) :: k)) cs w) (lone (b.atR { a with defers := ds } (.code c :: .inScope c :: k)) cs w) := .one (fenced_calm hb hroom rfl) h1
  cases e with
  | goto l => obtain ⟨E', L', a0, hQ, _⟩ := hp.not (by simp); exact hQ.elim
  | normal => exact ⟨.normal, a1, w1, hp, s1.trans (StepsIn.trans harr (.one (fenced_calm hb hroom rfl) (h2 a1 w1)))⟩
  | exit id => exact ⟨.exit id, a1, w1, hp, fun k' hk => s1.trans (harr.1 k' (by simp [exitTo, hk])), fun hr hk => let ⟨k1, e1, e2⟩ := harr.2 hr (by simpa [exitTo] using hk); ⟨k1, e1, s1.trans e2⟩⟩
  | ret => exact ⟨_, a1, w1, hp, .of_steps s1 harr⟩
  | panic ch => exact ⟨_, a1, w1, hp, .of_steps s1 harr⟩
  | outgrown => exact ⟨_, a1, w1, hp, .of_steps s1 harr⟩

section
variable {P : Program} {β : Base} {n : Nat} {arr : Array Oper} {E E' : Env} {L L' : List HP} {Q : Po} {ks : List Nat} {I : Nat → Env → List HP → Prop} {m : Nat}
theorem RunL.again (hk : Keep ks E E') (hl : Gives L L') (h : ∃ m', m' < m ∧ I m' E' L') : RunL P β n arr [] E L (fun E' L' => thenPo (fun E' L' => ∃ m', m' < m ∧ I m' E' L') Q .normal E' L') :=
  RunL.weak hk.sub hl (RunL.nil h)
theorem Run.again (hk : Keep ks E E') (hl : Gives L L') (h : ∃ m', m' < m ∧ I m' E' L') : Run P β n .skip E L (thenPo (fun E' L' => ∃ m', m' < m ∧ I m' E' L') Q) :=
  Run.weak hk.sub hl (Run.skip h)
end
theorem flat_ne {α : Type} {enc : α → List Value} {k : Nat} (hk : ∀ x, (enc x).length = k) (h0 : 0 < k) {xs : List α} {i : Nat} {x : α} (hx : xs[i]? = some x) : xs.flatMap enc ≠ [] := fun e => by
  have h1 := flat_len hk xs
  rw [e] at h1
  have h2 := (List.getElem?_eq_some_iff.1 hx).1
  have h3 : xs.length * k = 0 := by simpa using h1.symm
  rcases Nat.mul_eq_zero.1 h3 with h | h <;> omega
theorem get_ex {α : Type} {xs : List α} {i : Nat} (h : (i : Int) < (xs.length : Int)) : ∃ x, xs[i]? = some x := ⟨_, List.getElem?_eq_getElem (by omega)⟩
end Go.SL

namespace Go.SL
open Go
section
variable {α : Type} {enc : α → List Value} {T : TypeId} {k b n cap i j : Nat} {xs : List α} {x x' : α} {v : Value}
theorem flat_pos (hk : ∀ x, (enc x).length = k) (hx : xs[i]? = some x) (hv : (enc x)[j]? = some v) : xs.flatMap enc ≠ [] := by
  have h0 : 0 < k := by have := (List.getElem?_eq_some_iff.1 hv).1; rw [hk] at this; omega
  exact flat_ne hk h0 hx
theorem own.el (hx : xs[i]? = some x) (h0 : 0 < k) (hk : ∀ x, (enc x).length = k) : Rd (own T k (some ⟨b, 0, none⟩) n cap (xs.flatMap enc)) ⟨b, 0 + i * k, none⟩ (enc x) :=
  (own.rds.rd (flat_ne hk h0 hx)).elem hk hx
theorem own.fld (hx : xs[i]? = some x) (hv : (enc x)[j]? = some v) (hk : ∀ x, (enc x).length = k) : Rd (own T k (some ⟨b, 0, none⟩) n cap (xs.flatMap enc)) ⟨b, 0 + i * k + j, none⟩ [v] :=
  ((own.rds.rd (flat_pos hk hx hv)).elem hk hx).fld hv
theorem flat_append1 (xs : List α) (x : α) : (xs ++ [x]).flatMap enc = xs.flatMap enc ++ enc x := by simp
theorem flat_take (hk : ∀ x, (enc x).length = k) : ∀ (xs : List α) (i : Nat), (xs.take i).flatMap enc = (xs.flatMap enc).take (i * k)
  | [], i => by simp
  | y :: ys, 0 => by simp
  | y :: ys, i + 1 => by
    rw [List.take_succ_cons, List.flatMap_cons, List.flatMap_cons, flat_take hk ys i, List.take_append, List.take_of_length_le (l := enc y) (by rw [hk, Nat.add_mul]; omega), hk]
    congr 2; rw [Nat.add_mul]; omega
theorem flat_drop (hk : ∀ x, (enc x).length = k) : ∀ (xs : List α) (i : Nat), (xs.drop i).flatMap enc = (xs.flatMap enc).drop (i * k)
  | [], i => by simp
  | y :: ys, 0 => by simp
  | y :: ys, i + 1 => by
    rw [List.drop_succ_cons, List.flatMap_cons, flat_drop hk ys i, List.drop_append, List.drop_of_length_le (l := enc y) (by rw [hk, Nat.add_mul]; omega), hk, List.nil_append]
    congr 1; rw [Nat.add_mul]; omega
end

section
variable {P : Program} {β : Base} {n : Nat} {arr : Array Oper} {os : List Oper} {E : Env} {L L' M M' : List HP} {Q : Po} {T : TypeId} {k cap m : Nat} {oa : Option Addr} {cs : List Value}
theorem ownAddr {w : World} (p : Pick L (own T k oa m cap cs) M) (hne : cs ≠ []) (hs : Sat β L w) : ∃ b, oa = some ⟨b, 0, none⟩ ∧ m ≤ cap := by
  obtain ⟨⟨h, hl, _, _⟩, _⟩ := hs
  obtain ⟨h1, h2, _, rfl, ⟨hc, hm, ho⟩, _⟩ := p.star hl
  rcases ho with ⟨rfl, _⟩ | ⟨b, junk, rfl, _⟩
  · obtain rfl : m = 0 := by omega
    exact absurd (List.eq_nil_of_length_eq_zero (by simpa using hc)) hne
  · exact ⟨b, rfl, hm⟩
theorem Run.ownAddr {c : Code} (p : Pick L (own T k oa m cap cs) M) (hne : cs ≠ []) (h : ∀ b, oa = some ⟨b, 0, none⟩ → m ≤ cap → Run P β n c E L Q) : Run P β n c E L Q := fun a w ha hs => by
  obtain ⟨b, rfl, hm⟩ := SL.ownAddr p hne hs
  exact h b rfl hm a w ha hs
theorem RunL.ownAddr {K : Env → List HP → Prop} (p : Pick L (own T k oa m cap cs) M) (hne : cs ≠ []) (h : ∀ b, oa = some ⟨b, 0, none⟩ → m ≤ cap → RunL P β n arr os E L K) : RunL P β n arr os E L K := fun a w ha hs Q hQ => by
  obtain ⟨b, rfl, hm⟩ := SL.ownAddr p hne hs
  exact h b rfl hm a w ha hs Q hQ
theorem RunD.ownAddr {ops : Array Oper} {fuel : Nat} {listed : Array Bool} {pend : Pend} {K : Env → List HP → Prop} (p : Pick L (own T k oa m cap cs) M) (hne : cs ≠ []) (h : ∀ b, oa = some ⟨b, 0, none⟩ → m ≤ cap → RunD P β n ops fuel listed pend E L K) : RunD P β n ops fuel listed pend E L K := fun a w ha hs hp Q hnp hQ => by
  obtain ⟨b, rfl, hm⟩ := SL.ownAddr p hne hs
  exact h b rfl hm a w ha hs hp Q hnp hQ

theorem Run.conv {c : Code} {A B : HP} (u : Upd L A B L') (e : A = B) (h : Run P β n c E L' Q) : Run P β n c E L Q := fun a w ha hs => by
  obtain ⟨M, g1, g2⟩ := u.star
  exact h a w ha (Has.mono hs fun hp hh => g2 hp (e ▸ g1 hp hh))
theorem RunL.conv {K : Env → List HP → Prop} {A B : HP} (u : Upd L A B L') (e : A = B) (h : RunL P β n arr os E L' K) : RunL P β n arr os E L K := fun a w ha hs Q hQ => by
  obtain ⟨M, g1, g2⟩ := u.star
  exact h a w ha (Has.mono hs fun hp hh => g2 hp (e ▸ g1 hp hh)) Q hQ
theorem RunL.next {K : Env → List HP → Prop} {E' : Env} (he : ∀ t v, E'.get t = some v → E.get t = some v) (L2 : List HP) (hK : K E' L2) (hl : Gives L L2) : RunL P β n arr [] E L K :=
  RunL.weak he hl (RunL.nil hK)
end

section
variable {P : Program} {β : Base} {E : Env} {L L' M M' : List HP} {K : Value → List HP → Prop} {d : Option Tmp} {ty : TypeId} {pos : String} {af : Array Edge} {g : Option (Nat × Bool)} {x y : Operand} {t t' : TypeId}
theorem Sat.own {e : TypeId} {k n cap : Nat} {oa : Option Addr} {cs : List Value} {w : World} (hs : Has β (star (own e k oa n cap cs) (stars M)) w) (hne : cs ≠ []) :
    ∃ b junk, oa = some ⟨b, 0, none⟩ ∧ cs.length = n * k ∧ n ≤ cap ∧ cap * k ≤ cs.length + junk.length ∧ w.heap[b]? = some (blk (cs ++ junk) e) ∧ Has β (star (pt b (blk (cs ++ junk) e)) (stars M)) w := by
  obtain ⟨⟨hp, ⟨ha1, hb1, hd, rfl, ⟨hl1, hc1, ho⟩, hM⟩, hsub, hown⟩, hrest⟩ := hs
  rcases ho with ⟨h2, _⟩ | ⟨b, junk, h1, h2, h3⟩
  · obtain rfl : n = 0 := by omega
    exact absurd (List.eq_nil_of_length_eq_zero (by simpa using hl1)) hne
  · exact ⟨b, junk, h1, hl1, hc1, h2, Hp.sub_left hsub b _ (by rw [h3]; simp), ⟨⟨_, ⟨ha1, hb1, hd, rfl, h3, hM⟩, hsub, hown⟩, hrest⟩⟩

theorem OpJ.boxA {vs : List Value} (hx : E.ev x = some (.agg ⟨vs⟩)) (h : ∀ b, K (.pointer (some ⟨b, 0, none⟩)) (pt b (blk vs t) :: L)) : OpJ P β E L ⟨d, .box t x, ty, pos, af, g⟩ K := OpJ.box hx rfl h
variable {α : Type} {enc : α → List Value} {e : TypeId} {k b i j n cap : Nat} {xs : List α} {u u' : α} {v : Value}
theorem OpJ.loadO {m : Nat} (T : TI P t false m) (hx : E.ev x = some (.pointer (some ⟨b, 0 + i * k + j, none⟩))) (p : Pick L (own e k (some ⟨b, 0, none⟩) n cap (xs.flatMap enc)) M) (hu : xs[i]? = some u) (hv : (enc u)[j]? = some v) (hk : ∀ x, (enc x).length = k) (h : K v L) :
    OpJ P β E L ⟨d, .load t x, ty, pos, af, g⟩ K := OpJ.load1 T hx p (own.fld hu hv hk) h
theorem OpJ.loadE {m : Nat} (T : TI P t true m) (hx : E.ev x = some (.pointer (some ⟨b, 0 + i * k, none⟩))) (p : Pick L (own e k (some ⟨b, 0, none⟩) n cap (xs.flatMap enc)) M) (hu : xs[i]? = some u) (hk : ∀ x, (enc x).length = k) (hm : m = k) (h0 : 0 < k) (h : K (.agg ⟨enc u⟩) L) :
    OpJ P β E L ⟨d, .load t x, ty, pos, af, g⟩ K := OpJ.loadA T hx p (own.el hu h0 hk) ((hk u).trans hm.symm) h
theorem DetJ.loadO {m : Nat} (T : TI P t false m) (hx : E.ev x = some (.pointer (some ⟨b, 0 + i * k + j, none⟩))) (p : Pick L (own e k (some ⟨b, 0, none⟩) n cap (xs.flatMap enc)) M) (hu : xs[i]? = some u) (hv : (enc u)[j]? = some v) (hk : ∀ x, (enc x).length = k) :
    DetJ P β E L ⟨d, .load t x, ty, pos, af, g⟩ v := DetJ.load1 T hx p (own.fld hu hv hk)
theorem OpJ.append1 {bytes m b' : Nat} {zs : List Value} {oa : Option Addr} {bt : TypeId} {cs : List Value} (u : α) (S : SI P t e k) (I : MI P e k bytes zs) (hx : E.ev x = some (.slice oa m cap)) (hy : E.ev y = some (.slice (some ⟨b', 0, none⟩) 1 1))
    (p : Pick L (own e k oa m cap (xs.flatMap enc)) M) (p2 : Pick L (pt b' (blk cs bt)) M') (hcs : cs = enc u) (hk : (enc u).length = k) (h1 : ∀ v ∈ enc u, v.oneCell' = true) (hm : m = xs.length) (hb : (xs.length + 1) * bytes ≤ 140737488355328) (h63 : xs.length + 1 ≤ 9223372036854775807)
    (h : ∀ oa' cap', K (.slice oa' (xs ++ [u]).length cap') (own e k oa' (xs ++ [u]).length cap' ((xs ++ [u]).flatMap enc) :: M)) : OpJ P β E L ⟨d, .call ⟨.builtin .append, #[x, y], #[t, t]⟩, ty, pos, af, g⟩ K := by
  subst hcs
  subst hm
  have hl : (xs ++ [u]).length = xs.length + 1 := by simp
  have hf := flat_append1 (enc := enc) xs u
  refine OpJ.append S I hx hy p p2 Rd.whole (by rw [hk]; omega) h1 hb h63 (by omega) fun oa' cap' => ?_
  rw [← hl, ← hf]; exact h oa' cap'

theorem OpJ.sliceHi {oa : Option Addr} {l c : Nat} {oh : Operand} (S : SI P t e k) (hx : E.ev x = some (.slice oa l c)) (hh : E.ev oh = some (.int .i64 (i : Int))) (hi : i ≤ c)
    (h : K (.slice oa i c) L) : OpJ P β E L ⟨d, .slice t x none (some oh) none, ty, pos, af, g⟩ K :=
  OpJ.same (fun a w ha _ => by
    simp only [execOp, Option.map_none, Option.map_some, ha.ev hx, ha.ev hh, Instr.sliceAt, Instr.slice]
    simp [run_underlying S.under, Instr.sliceBounds, Instr.sliceBound, asIntOf, hi, S.run_size]
    intro; cases oa <;> simp [Addr.add_zero]) h
theorem RunD.takeO {P : Program} {β : Base} {nn : Nat} {ops : Array Oper} {fuel : Nat} {listed : Array Bool} {pend : Pend} {E : Env} {L M : List HP} {K : Env → List HP → Prop} {α : Type} {enc : α → List Value} {e : TypeId} {k b j n cap : Nat} {xs : List α} {u : α} {v : Value} (i : Nat) {ie m : Nat} {x : Operand} {t : TypeId} {d : Option Tmp} {ty : TypeId} {pos : String} {af : Array Edge} (hi : ops[i]? = some ⟨d, .load t x, ty, pos, af, none⟩) (hd : dstOk nn d = true)
    (hchk : (Region.noSelect ops && Region.free .any ops listed i && (Region.ready .any ops listed).contains i) = true) (T : TI P t false m) (hx : E.ev x = some (.pointer (some ⟨b, 0 + ie * k + j, none⟩))) (p : Pick L (own e k (some ⟨b, 0, none⟩) n cap (xs.flatMap enc)) M) (hu : xs[ie]? = some u) (hv : (enc u)[j]? = some v) (hk : ∀ x, (enc x).length = k)
    (h : RunD P β nn ops fuel (listed.setIfInBounds i true) ((i, [own e k (some ⟨b, 0, none⟩) n cap (xs.flatMap enc)]) :: pend) (E.put d v) L K) : RunD P β nn ops (fuel + 1) listed pend E L K :=
  RunD.take (Ls := [own e k (some ⟨b, 0, none⟩) n cap (xs.flatMap enc)]) i hi rfl hd hchk (DetJ.loadO T hx .here hu hv hk) (.cons p .nil) h
end
end Go.SL

namespace Go.SL
open Go
abbrev I (n : Int) : Value := .int .i64 n
abbrev St (s : ByteArray) : Value := .string s
abbrev Bo (b : Bool) : Value := .bool b
structure Mv where
  seq : Int
  value : Int
  item : ByteArray
  kind : Int
  qty : Int
  cost : Int
  lot : ByteArray
  ref : Int
structure Ly where
  seq : Int
  lot : ByteArray
  qty : Int
  value : Int
structure Pa where
  seq : Int
  kind : Int
  lot : ByteArray
  qty : Int
  value : Int
  used : Int
  usedValue : Int
structure Co where
  seq : Int
  qty : Int
  value : Int
  var : Int
def Mv.c (m : Mv) : List Value := [I m.seq, I m.value, St m.item, I m.kind, I m.qty, I m.cost, St m.lot, I m.ref]
def Ly.c (l : Ly) : List Value := [I l.seq, St l.lot, I l.qty, I l.value]
def Pa.c (p : Pa) : List Value := [I p.seq, I p.kind, St p.lot, I p.qty, I p.value, I p.used, I p.usedValue]
def Co.c (c : Co) : List Value := [I c.seq, I c.qty, I c.value, I c.var]

structure Sk where
  qty : Int
  value : Int
  price : Int
  layers : List Ly
  past : List Pa
abbrev Sk.c (s : Sk) (la : Option Addr) (lc : Nat) (pa : Option Addr) (pc : Nat) : List Value :=
  [I s.qty, I s.value, I s.price, .slice la s.layers.length lc, .slice pa s.past.length pc]

def inB (n lo hi : Int) : Bool := decide (lo ≤ n ∧ n ≤ hi)
def Mv.quantityOk (m : Mv) : Bool := if m.kind = 5 ∨ m.kind = 6 then decide (m.qty = 0) else inB m.qty 1 1000000000
def Mv.costOk (m : Mv) : Bool :=
  if m.kind = 2 ∨ m.kind = 3 then decide (m.cost = 0) else if m.kind = 5 then inB m.cost 1 1000000000000 else inB m.cost 0 1000000000000
def refersB (kind : Int) : Bool := decide (kind = 3 ∨ kind = 4 ∨ kind = 5)
def near (n lo hi : Int) : Int := if n < lo then lo else if hi < n then hi else n
def farB (n : Int) : Bool := decide (near n (-1000000000000000) 1000000000000000 ≠ n)
def largeB (n : Int) : Bool := decide (1000000000000000 < n ∨ n < -1000000000000000)
def withinB (n : Int) : Bool := decide (-1000000000000000 ≤ n ∧ n ≤ 1000000000000000)
def letterB (c : Int) : Bool := decide (97 ≤ c ∧ c ≤ 122 ∨ 65 ≤ c ∧ c ≤ 90 ∨ c = 95)
def digitB (c : Int) : Bool := decide (48 ≤ c ∧ c ≤ 57)
def findIdx {α : Type} (p : α → Bool) (xs : List α) : Int := match xs.findIdx? p with | some i => (i : Int) | none => -1
attribute [irreducible] findIdx inB Mv.quantityOk Mv.costOk refersB near farB largeB withinB letterB digitB
end Go.SL

namespace Go.SL
open Go
theorem RunD.set {P : Program} {β : Base} {n : Nat} {ops : Array Oper} {fuel : Nat} {listed : Array Bool} {pend : Pend} {L : List HP} {K : Env → List HP → Prop} {t : Nat} {u v : Value} {E' : Env} (e : u = v) (h : RunD P β n ops fuel listed pend ((t, v) :: E') L K) : RunD P β n ops fuel listed pend ((t, u) :: E') L K := by subst e; exact h
section
variable {P : Program} {β : Base} {E : Env} {L L' M M' : List HP} {K : Value → List HP → Prop} {d : Option Tmp} {ty : TypeId} {pos : String} {af : Array Edge} {g : Option (Nat × Bool)} {x y : Operand} {t t' : TypeId}
variable {α : Type} {enc : α → List Value} {e : TypeId} {k b i j n cap : Nat} {xs : List α} {u u' : α} {v : Value}
theorem OpJ.min {k : IntKind} {m n : Int} {ts : Array TypeId} (hx : E.ev x = some (.int k m)) (hy : E.ev y = some (.int k n)) (h : K (.int k (if n < m then n else m)) L) : OpJ P β E L ⟨d, .call ⟨.builtin .min, #[x, y], ts⟩, ty, pos, af, g⟩ K :=
  OpJ.same (fun a w ha _ => by simp [execOp, resolve, invoke, builtin, Builtin.min_, Builtin.min2, ha.ev hx, ha.ev hy]) h
theorem DetJ.min {k : IntKind} {m n : Int} {ts : Array TypeId} (hx : E.ev x = some (.int k m)) (hy : E.ev y = some (.int k n)) : DetJ P β E L ⟨d, .call ⟨.builtin .min, #[x, y], ts⟩, ty, pos, af, g⟩ (.int k (if n < m then n else m)) :=
  fun a w ha _ => by simp [execOp, resolve, invoke, builtin, Builtin.min_, Builtin.min2, ha.ev hx, ha.ev hy]
theorem DetJ.sliceHi {oa : Option Addr} {l c : Nat} {oh : Operand} (S : SI P t e k) (hx : E.ev x = some (.slice oa l c)) (hh : E.ev oh = some (.int .i64 (i : Int))) (hi : i ≤ c) :
    DetJ P β E L ⟨d, .slice t x none (some oh) none, ty, pos, af, g⟩ (.slice oa i c) :=
  fun a w ha _ => by
    simp only [execOp, Option.map_none, Option.map_some, ha.ev hx, ha.ev hh, Instr.sliceAt, Instr.slice]
    simp [run_underlying S.under, Instr.sliceBounds, Instr.sliceBound, asIntOf, hi, S.run_size]
    intro; cases oa <;> simp [Addr.add_zero]
theorem DetJ.addI {m n : Int} (hx : E.ev x = some (.int .i64 m)) (hy : E.ev y = some (.int .i64 n)) (hb : -9223372036854775808 ≤ m + n ∧ m + n ≤ 9223372036854775807) : DetJ P β E L ⟨d, .binOp .add t x y t', ty, pos, af, g⟩ (.int .i64 (m + n)) := by
  have h := DetJ.add (P := P) (β := β) (E := E) (L := L) (d := d) (t := t) (t' := t') (ty := ty) (pos := pos) (af := af) (g := g) hx hy
  rwa [wrap_i64_in hb] at h
theorem DetJ.subI {m n : Int} (hx : E.ev x = some (.int .i64 m)) (hy : E.ev y = some (.int .i64 n)) (hb : -9223372036854775808 ≤ m - n ∧ m - n ≤ 9223372036854775807) : DetJ P β E L ⟨d, .binOp .sub t x y t', ty, pos, af, g⟩ (.int .i64 (m - n)) := by
  have h := DetJ.sub (P := P) (β := β) (E := E) (L := L) (d := d) (t := t) (t' := t') (ty := ty) (pos := pos) (af := af) (g := g) hx hy
  rwa [wrap_i64_in hb] at h
theorem run_append0 {w : World} {e : TypeId} {k i c m : Nat} {oa ob : Option Addr} (S : SI P t e k) (hi : i ≤ c) : (Builtin.append_ #[t, t] ty #[.slice oa i c, .slice ob 0 m]).run P w = .ok (.slice oa i c) w := by
  cases oa <;> cases ob <;> simp [Builtin.append_, run_underlying S.under, S.run_size, Builtin.lenOf, hi, Builtin.firstCells, loadCells, loadCellsFrom, storeCells]
theorem flat_one (hone : ∀ x, ∀ v ∈ enc x, Value.oneCell' v = true) (xs : List α) : ∀ v ∈ xs.flatMap enc, Value.oneCell' v = true := fun v hv => by
  obtain ⟨x, _, hx⟩ := List.mem_flatMap.1 hv
  exact hone x v hx

end
section
variable {P : Program} {β : Base} {nn : Nat} {ops : Array Oper} {fuel : Nat} {listed : Array Bool} {pend : Pend} {E : Env} {L M : List HP} {K : Env → List HP → Prop}
theorem RunD.takeGF {b off : Nat} {cs : List Value} {bt : TypeId} {v : Value} (i : Nat) {m : Nat} {jg : Nat} {gb : Bool} {gd : Tmp} {x : Operand} {t : TypeId} {d : Option Tmp} {ty : TypeId} {pos : String} {af : Array Edge} (hi : ops[i]? = some ⟨d, .load t x, ty, pos, af, some (jg, gb)⟩) (hj : (ops[jg]?).bind (·.dst) = some gd) (hgb : E.get gd = some (.bool gb)) (hd : dstOk nn d = true)
    (hchk : (Region.noSelect ops && Region.free .any ops listed i && (Region.ready .any ops listed).contains i) = true) (T : TI P t false m) (hx : E.ev x = some (.pointer (some ⟨b, off, none⟩))) (p : Pick L (pt b (blk cs bt)) M) (hv : cs[off]? = some v)
    (h : RunD P β nn ops fuel (listed.setIfInBounds i true) ((i, [pt b (blk cs bt)]) :: pend) (E.put d v) L K) : RunD P β nn ops (fuel + 1) listed pend E L K :=
  RunD.takeG (Ls := [pt b (blk cs bt)]) i hi rfl hj hgb hd hchk (DetJ.load1 T hx .here (Rd.one hv)) (.cons p .nil) h
theorem RunD.takeGO {α : Type} {enc : α → List Value} {e : TypeId} {ie k b j n cap : Nat} {xs : List α} {u : α} {v : Value} (i : Nat) {m : Nat} {jg : Nat} {gb : Bool} {gd : Tmp} {x : Operand} {t : TypeId} {d : Option Tmp} {ty : TypeId} {pos : String} {af : Array Edge} (hi : ops[i]? = some ⟨d, .load t x, ty, pos, af, some (jg, gb)⟩) (hj : (ops[jg]?).bind (·.dst) = some gd) (hgb : E.get gd = some (.bool gb)) (hd : dstOk nn d = true)
    (hchk : (Region.noSelect ops && Region.free .any ops listed i && (Region.ready .any ops listed).contains i) = true) (T : TI P t false m) (hx : E.ev x = some (.pointer (some ⟨b, 0 + ie * k + j, none⟩))) (p : Pick L (own e k (some ⟨b, 0, none⟩) n cap (xs.flatMap enc)) M) (hu : xs[ie]? = some u) (hv : (enc u)[j]? = some v) (hk : ∀ x, (enc x).length = k)
    (h : RunD P β nn ops fuel (listed.setIfInBounds i true) ((i, [own e k (some ⟨b, 0, none⟩) n cap (xs.flatMap enc)]) :: pend) (E.put d v) L K) : RunD P β nn ops (fuel + 1) listed pend E L K :=
  RunD.takeG (Ls := [own e k (some ⟨b, 0, none⟩) n cap (xs.flatMap enc)]) i hi rfl hj hgb hd hchk (DetJ.loadO T hx .here hu hv hk) (.cons p .nil) h
end
theorem RunD.takeE {P : Program} {β : Base} {nn : Nat} {ops : Array Oper} {fuel : Nat} {listed : Array Bool} {pend : Pend} {E : Env} {L M : List HP} {K : Env → List HP → Prop} {α : Type} {enc : α → List Value} {e : TypeId} {k b n cap : Nat} {xs : List α} {u : α} (i : Nat) {ie m : Nat} {x : Operand} {t : TypeId} {d : Option Tmp} {ty : TypeId} {pos : String} {af : Array Edge} (hi : ops[i]? = some ⟨d, .load t x, ty, pos, af, none⟩) (hd : dstOk nn d = true)
    (hchk : (Region.noSelect ops && Region.free .any ops listed i && (Region.ready .any ops listed).contains i) = true) (T : TI P t true m) (hx : E.ev x = some (.pointer (some ⟨b, 0 + ie * k, none⟩))) (p : Pick L (own e k (some ⟨b, 0, none⟩) n cap (xs.flatMap enc)) M) (hu : xs[ie]? = some u) (hk : ∀ x, (enc x).length = k) (hm : m = k) (h0 : 0 < k)
    (h : RunD P β nn ops fuel (listed.setIfInBounds i true) ((i, [own e k (some ⟨b, 0, none⟩) n cap (xs.flatMap enc)]) :: pend) (E.put d (.agg ⟨enc u⟩)) L K) : RunD P β nn ops (fuel + 1) listed pend E L K :=
  RunD.take (Ls := [own e k (some ⟨b, 0, none⟩) n cap (xs.flatMap enc)]) i hi rfl hd hchk (DetJ.loadA T hx .here (own.el hu h0 hk) ((hk u).trans hm.symm)) (.cons p .nil) h
theorem AC.drop {P : Program} {f : FuncId} {args : Array Value} {A : HP} {Q Q' : Value → HP} (h : AC P f args (stars []) Q) (hq : ∀ r h, Q r h → Q' r h) : AC P f args A Q' := fun w hp _ _ => by
  refine (h w (fun _ => none) (fun _ => rfl) (fun b o hb => by cases hb)).mono ?_
  rintro e w' ⟨r, he, hh⟩
  refine ⟨r, he, ?_⟩
  obtain ⟨⟨h', hQ, hsub, hown⟩, hr⟩ := hh
  exact ⟨⟨h', hq r h' hQ, hsub, fun b hb => (hown b hb).elim (fun h => absurd rfl h) .inr⟩, ⟨fun b hb _ => hr.frame b hb rfl, hr.size, hr.os, hr.tape, hr.output⟩⟩
end Go.SL

namespace Go.SL
open Go
theorem pk {L M : List HP} {A : HP} (p : Pick L A M := by repeat (first | exact Pick.here | apply Pick.there)) : Pick L A M := p
theorem up {L L' : List HP} {A B : HP} (p : Upd L A B L' := by repeat (first | exact Upd.here | apply Upd.there)) : Upd L A B L' := p
theorem tks {L M As : List HP} (p : Takes L As M := by repeat (first | exact Takes.nil | (apply Takes.cons; · repeat (first | exact Pick.here | apply Pick.there)))) : Takes L As M := p
theorem gv {L M : List HP} (p : Gives L M := by repeat (first | exact Gives.nil | (apply Gives.cons; · repeat (first | exact Pick.here | apply Pick.there)))) : Gives L M := p
theorem po {pend : Pend} {L : List HP} (p : PendOk pend L := by repeat (first | exact PendOk.nil | (apply PendOk.cons; · repeat (first | exact Gives.nil | (apply Gives.cons; · repeat (first | exact Pick.here | apply Pick.there)))))) : PendOk pend L := p
theorem kr {α : Type} {a b : α} (h : a = b := by kernel_rfl) : a = b := h
def Env.pick : List Nat → Env → Option Env
  | [], _ => some []
  | k :: ks, E => match E.get k with
    | none => none
    | some v => match Env.pick ks E with
      | none => none
      | some E' => some ((k, v) :: E')
theorem kt : ∀ {ks : List Nat} {E E' : Env}, E.pick ks = some E' → Keep ks E E'
  | [], E, E', h => by cases h; exact .nil
  | k :: ks, E, E', h => by
    unfold Env.pick at h
    split at h
    · cases h
    · rename_i v hv
      split at h
      · cases h
      · rename_i E2 he; cases h; exact .cons hv (kt he)
section
variable {P : Program} {β : Base} {n : Nat} {arr : Array Oper} {os : List Oper} {E E' : Env} {L : List HP} {K : Env → List HP → Prop} {d : Option Tmp} {ty : TypeId} {pos : String} {af : Array Edge} {x : Operand} {v : Value} {Q : Po}
theorem asg (hd : dstOk n d = true) (hx : E.ev x = some v) (h : RunL P β n arr os (E.put d v) L K) : RunL P β n arr (⟨d, .assign x, ty, pos, af, none⟩ :: os) E L K := RunL.op hd rfl (OpJ.assign hx h)
theorem mvo (hd : dstOk n d = true) (hx : E.ev x = some v) (h : RunL P β n arr os (E.put d v) L K) : RunL P β n arr (⟨d, .move x, ty, pos, af, none⟩ :: os) E L K := RunL.op hd rfl (OpJ.move hx h)
theorem kp (ks : List Nat) (hk : E.pick ks = some E') (h : K E' L) : RunL P β n arr [] E L K := RunL.keep (kt hk) h
theorem sr {id : Nat} {y : Code} (h : RunL P β n arr arr.toList E L fun E' L' => Run P β n y E' L' Q) : Run P β n (.seq (.region id arr false) y) E L Q := Run.seq (Run.region h)
variable {ops : Array Oper} {fuel : Nat} {listed : Array Bool} {pend : Pend}
theorem kd (ks : List Nat) (hk : E.pick ks = some E') (h : K E' L) (hr : Region.ready .any ops listed = [] := by kernel_rfl) : RunD P β n ops fuel listed pend E L K := RunD.keep hr (kt hk) h
theorem tk (i : Nat) {o : Oper} {v : Value} (hi : ops[i]? = some o) (hg : o.guard = none) (hd : dstOk n o.dst = true) (hy : DetJ P β E [] o v) (h : RunD P β n ops fuel (listed.setIfInBounds i true) ((i, []) :: pend) (E.put o.dst v) L K)
    (hchk : (Region.noSelect ops && Region.free .any ops listed i && (Region.ready .any ops listed).contains i) = true := by kernel_rfl) : RunD P β n ops (fuel + 1) listed pend E L K := RunD.take (Ls := []) i hi hg hd hchk hy .nil h
end
theorem bs : (∀ {α : Type} {a : α} {us : List α}, (a :: us).length = us.length + 1) ∧ (∀ {α : Type}, ([] : List α).length = 0) ∧ (∀ {α : Type} {a : α} {us : List α} {i : Nat}, (a :: us).take (i + 1) = a :: us.take i) ∧ (∀ {α : Type} {us : List α}, us.take 0 = []) ∧
    (∀ {α : Type} {a : α} {us : List α} {i : Nat}, (a :: us).drop (i + 1) = us.drop i) ∧ (∀ {α : Type} {us : List α}, us.drop 0 = us) ∧ (∀ {α : Type} {i : Nat}, ([] : List α).drop i = []) ∧ (∀ {α : Type} {a : α} {us vs : List α}, a :: us ++ vs = a :: (us ++ vs)) ∧
    (∀ {α : Type} {us : List α}, [] ++ us = us) ∧ (∀ {α : Type} {us : List α}, us ++ [] = us) ∧ (∀ {α : Type} {a : α} {us : List α} {i : Nat}, (a :: us)[i + 1]? = us[i]?) ∧ (∀ {α : Type} {a : α} {us : List α}, (a :: us)[0]? = some a) ∧
    (∀ n : Nat, 0 + n = n) ∧ (∀ n : Nat, n + 0 = n) ∧ (∀ n : Nat, (n ≤ n) = True) ∧ (∀ n : Nat, (0 < n.succ) = True) ∧ (∀ p : Prop, (p ∧ p) = p) ∧ (∀ p : Prop, (p ∧ True) = p) ∧ (∀ p : Prop, (True ∧ p) = p) ∧ (∀ {α : Type} (a b : α), (if True then a else b) = a) ∧ (∀ {α : Type} (a b : α), (some a = some b) = (a = b)) := by
  refine ⟨?_, ?_, ?_, ?_, ?_, ?_, ?_, ?_, ?_, ?_, ?_, ?_, ?_, ?_, ?_, ?_, ?_, ?_, ?_, ?_, ?_⟩ <;> simp
end Go.SL

namespace Go.SL
open Go
section
variable {P : Program} {β : Base} {E : Env} {L L' M M' : List HP} {K : Value → List HP → Prop} {d : Option Tmp} {ty : TypeId} {pos : String} {af : Array Edge} {g : Option (Nat × Bool)} {x y : Operand} {t t' : TypeId} {α : Type} {enc : α → List Value} {e : TypeId} {k b i j n cap : Nat} {xs : List α} {u u' : α} {v : Value}
theorem DetJ.eqlNilSl {oa : Option Addr} {l c : Nat} (S : SI P t e k) (hx : E.ev x = some (.slice oa l c)) : DetJ P β E L ⟨d, .binOp .eql t x (.const (.slice none 0 0)) t', ty, pos, af, g⟩ (.bool oa.isNone) :=
  fun a w ha _ => by
    have hc : a.eval (.const (.slice none 0 0)) = .slice none 0 0 := rfl
    simp only [execOp, ha.ev hx, hc]
    simp [eqGuard, Lib.run_eql_slice_nil w t e oa l c 0 0 S.under]
theorem OpJ.eqlNilSl {oa : Option Addr} {l c : Nat} (S : SI P t e k) (hx : E.ev x = some (.slice oa l c)) (h : K (.bool oa.isNone) L) : OpJ P β E L ⟨d, .binOp .eql t x (.const (.slice none 0 0)) t', ty, pos, af, g⟩ K :=
  OpJ.same (DetJ.eqlNilSl S hx) h
theorem OpJ.buildSlice0 (S : SI P t e k) (h : ∀ b, K (.slice (some ⟨b, 0, none⟩) 0 0) (own e k (some ⟨b, 0, none⟩) 0 0 [] :: L)) : OpJ P β E L ⟨d, .buildSlice t 0 #[], ty, pos, af, g⟩ K := OpJ.vals fun a w ha hs => by
  refine ⟨.slice (some ⟨w.heap.size, 0, none⟩) 0 0, own e k (some ⟨w.heap.size, 0, none⟩) 0 0 [] :: L, w.alloc (blk [] e), ?_, ?_, h w.heap.size⟩
  · simp only [execOp, Instr.buildSlice]
    simp only [Sem.run_bind, run_underlying S.under, Result.andThen_ok, S.run_size, Nat.zero_mul]
    have e0 : (Array.range 0).map (fun x => (default : Value)) = #[] := by simp [Array.range]
    simp [Instr.fill, newRow, e0]
    rfl
  · refine (Has.alloc hs (blk [] e)).mono fun hp => star_mono (fun hp1 hpt => ?_) fun _ => id
    exact ⟨by simp, Nat.le_refl _, .inr ⟨_, [], rfl, by simp, by simpa using hpt⟩⟩
theorem OpJ.appendAllB {bytes m c : Nat} {zs cs news : List Value} {oa ob : Option Addr} {R : HP} (S : SI P t e k) (I : MI P e k bytes zs) (hx : E.ev x = some (.slice oa n cap)) (hy : E.ev y = some (.slice ob m c))
    (p : Pick L (own e k oa n cap cs) M) (p2 : Pick L R M') (hr : RdS R ob news) (hl : news.length = m * k) (hk : 0 < k) (h1 : ∀ v ∈ news, v.oneCell' = true) (hb : (n + m) * bytes ≤ 140737488355328) (h63 : n + m ≤ 9223372036854775807)
    (h : ∀ oa' cap', (cap ≤ 9223372036854775807 → cap' ≤ 9223372036854775807) → K (.slice oa' (n + m) cap') (own e k oa' (n + m) cap' (cs ++ news) :: M)) : OpJ P β E L ⟨d, .call ⟨.builtin .append, #[x, y], #[t, t]⟩, ty, pos, af, g⟩ K := fun a w ha hs => by
  by_cases hm : m = 0
  · subst hm
    have hn0 : news = [] := List.eq_nil_of_length_eq_zero (by rw [hl, Nat.zero_mul])
    subst hn0
    have hs1 : Has β (star (own e k oa n cap cs) (stars M)) w := Has.mono hs fun _ => p.star
    have hnc : n ≤ cap := by
      obtain ⟨⟨hp, ⟨ha1, hb1, hd, rfl, ⟨hl1, hc1, ho⟩, hM⟩, _⟩, _⟩ := hs1
      exact hc1
    have hh := h oa cap id
    simp only [Nat.add_zero, List.append_nil] at hh
    exact (OpJ.vals fun a w ha hs => ⟨_, _, w, by simp [execOp, resolve, invoke, builtin, ha.ev hx, ha.ev hy, run_append0 (P := P) (w := w) (ty := ty) (oa := oa) (ob := ob) (m := c) S hnc], Has.mono hs fun _ => p.star, hh⟩ : OpJ P β E L ⟨d, .call ⟨.builtin .append, #[x, y], #[t, t]⟩, ty, pos, af, g⟩ K) a w ha hs
  · have hne : news ≠ [] := fun e => by
      subst e
      have : 0 < m * k := Nat.mul_pos (by omega) hk
      simp at hl; omega
    obtain ⟨ad, rfl, hrd⟩ : ∃ ad, ob = some ad ∧ Rd R ad news := by
      obtain ⟨⟨hp, hlp, _⟩, _⟩ := hs
      obtain ⟨h1', h2', _, rfl, hA, _⟩ := p2.star hlp
      obtain ⟨b', o', rfl⟩ := hr.addr hne hA
      exact ⟨_, rfl, hr.rd hne⟩
    exact OpJ.appendB S I hx hy p p2 hrd hl h1 hb h63 (by omega) h a w ha hs
theorem OpJ.appendAll {bytes m c : Nat} {zs cs news : List Value} {oa ob : Option Addr} {R : HP} (S : SI P t e k) (I : MI P e k bytes zs) (hx : E.ev x = some (.slice oa n cap)) (hy : E.ev y = some (.slice ob m c))
    (p : Pick L (own e k oa n cap cs) M) (p2 : Pick L R M') (hr : RdS R ob news) (hl : news.length = m * k) (hk : 0 < k) (h1 : ∀ v ∈ news, v.oneCell' = true) (hb : (n + m) * bytes ≤ 140737488355328) (h63 : n + m ≤ 9223372036854775807)
    (h : ∀ oa' cap', K (.slice oa' (n + m) cap') (own e k oa' (n + m) cap' (cs ++ news) :: M)) : OpJ P β E L ⟨d, .call ⟨.builtin .append, #[x, y], #[t, t]⟩, ty, pos, af, g⟩ K := OpJ.appendAllB S I hx hy p p2 hr hl hk h1 hb h63 fun a c _ => h a c
end
theorem Has.ownNil {β : Base} {T : TypeId} {k : Nat} {A : HP} {w : World} (hs : Has β A w) : Has β (star (own T k none 0 0 []) A) w := by
  refine hs.mono fun h hA => ⟨fun _ => none, h, fun b => .inl rfl, ?_, own.nil fun _ => rfl, hA⟩
  funext b; simp [Hp.add]
section
variable {P : Program} {β : Base} {n : Nat} {arr : Array Oper} {os : List Oper} {E : Env} {L : List HP} {K : Env → List HP → Prop}
theorem RunL.ownNil (T : TypeId) (k : Nat) (h : RunL P β n arr os E (own T k none 0 0 [] :: L) K) : RunL P β n arr os E L K :=
  RunL.mapL (L' := own T k none 0 0 [] :: L) (fun w hs => Has.ownNil hs) h
end
end Go.SL

namespace Go.SL
open Go
section
variable {P : Program} {β : Base} {E : Env} {L L' M M' : List HP} {K : Value → List HP → Prop} {d : Option Tmp} {ty : TypeId} {pos : String} {af : Array Edge} {g : Option (Nat × Bool)} {x y : Operand} {t t' : TypeId} {e : TypeId} {k : Nat}
theorem fill_congr {f h : Nat → Option (Nat × Nat)} : ∀ (ps : List (Nat × Value)) (cs : Array Value), (∀ p ∈ ps, f p.1 = h p.1) → Instr.fill f cs ps = Instr.fill h cs ps
  | [], cs, _ => rfl
  | p :: ps, cs, hp => by
    have h1 := hp p (by simp)
    have ih := fun cs => fill_congr ps cs fun q hq => hp q (by simp [hq])
    obtain ⟨i, v⟩ := p
    simp only at h1
    simp only [Instr.fill, h1]
    cases h i with
    | none => rfl
    | some o =>
      simp only
      split
      · rfl
      · exact ih _
def slPlaces (n k : Nat) : List (Nat × Nat) := (List.range n).map fun i => (i * k, k)
theorem OpJ.buildSliceN {n : Nat} {xs : List (Nat × Operand)} {ps : List (Nat × Value)} {zs cs : List Value} (S : SI P t e k) (Z : ZI P e zs) (hz : zs.length = k) (h0 : 0 < n * k) (hk : n * k ≤ 16777216) (hx : E.evp xs = some ps) (hi : ps.all (fun p => decide (p.1 < n)) = true)
    (hcs : bldL (slPlaces n k) (List.replicate n zs).flatten ps = some cs) (h : ∀ b, K (.slice (some ⟨b, 0, none⟩) n n) (pt b (blk cs e) :: L)) : OpJ P β E L ⟨d, .buildSlice t n ⟨xs⟩, ty, pos, af, g⟩ K := OpJ.vals fun a w ha hs => by
  obtain ⟨i, z, hi', hiz, rfl⟩ := Z.zero
  refine ⟨.slice (some ⟨w.heap.size, 0, none⟩) n n, pt w.heap.size (blk cs e) :: L, w.alloc (blk cs e), ?_, Has.alloc hs _, h w.heap.size⟩
  have hzc : ((Array.range (n * k)).map (z.cells[· % z.cells.size]!)) = ⟨(List.replicate n z.cells.toList).flatten⟩ := by
    have hsz : z.cells.size = k := by simpa using hz
    have := madeCells_flat z.cells.toList n
    rw [hz] at this
    apply Array.ext'
    rw [← this]
    simp only [madeCells, Array.toArray_toList]
  have hfill : Instr.fill (fun i => some (i * k, k)) ((Array.range (n * k)).map (z.cells[· % z.cells.size]!)) ps = some ⟨cs⟩ := by
    rw [hzc, ← fill_bldL _ _ _ _ hcs]
    refine fill_congr _ _ fun p hp => ?_
    have hpn : p.1 < n := by simpa using List.all_eq_true.1 hi p hp
    simp [slPlaces, hpn]
  have hpar := ha.evp hx
  have hk2 : ¬ (16777216 < n * k) := by omega
  have hk0 : ¬ (n * k = 0) := by omega
  have hn0 : n ≠ 0 := by rintro rfl; simp at h0
  have hkk : k ≠ 0 := by rintro rfl; simp at h0
  simp only [execOp, Instr.buildSlice]
  simp only [Sem.run_bind, run_underlying S.under, Result.andThen_ok, S.run_size]
  have hpar2 : (Array.map (fun x => (x.1, a.eval x.2)) ⟨xs⟩).toList = ps := by
    rw [← hpar]; simp
  simp [hn0, hkk, hk2, zeroValue, typeInfo, hi', hiz, newRow, hpar, hfill]
  rw [if_neg hk0]
  rfl
end
section
variable {P : Program} {β : Base} {n : Nat} {arr : Array Oper} {os : List Oper} {E : Env} {L M As : List HP} {K : Env → List HP → Prop}
theorem stars_mk : ∀ {As M : List HP} {h : Hp}, star (stars As) (stars M) h → stars (As ++ M) h
  | [], M, h, hs => by
    obtain ⟨h1, h2, hd, rfl, ha, hb⟩ := hs
    rw [Hp.add_none ha]; exact hb
  | A :: As, M, h, hs => star_mono (fun _ => id) (fun _ h => stars_mk h) (star_assoc' hs)
theorem RunL.unstar (p : Pick L (stars As) M) (h : RunL P β n arr os E (As ++ M) K) : RunL P β n arr os E L K :=
  RunL.mapL (L' := As ++ M) (fun w hs => Has.mono hs fun _ hh => stars_mk (p.star hh)) h
theorem RunD.rdOpen {ops : Array Oper} {fuel : Nat} {listed : Array Bool} {pend : Pend} {R : HP} {oa : Option Addr} {cs : List Value} (p : Pick L R M) (hr : RdS R oa cs) (hne : cs ≠ []) (k : ∀ b o, oa = some ⟨b, o, none⟩ → Rd R ⟨b, o, none⟩ cs → RunD P β n ops fuel listed pend E L K) : RunD P β n ops fuel listed pend E L K := fun a w ha hs hp Q hnp hQ => by
  have hs' := hs
  obtain ⟨⟨hp', hlp, _⟩, _⟩ := hs'
  obtain ⟨h1', h2', _, e, hA, _⟩ := p.star hlp
  obtain ⟨b', o', rfl⟩ := hr.addr hne hA
  exact k b' o' rfl (hr.rd hne) a w ha hs hp Q hnp hQ
theorem stars_un : ∀ {As M : List HP} {h : Hp}, stars (As ++ M) h → star (stars As) (stars M) h
  | [], M, h, hs => ⟨fun _ => none, h, fun b => .inl rfl, by funext b; simp [Hp.add], fun _ => rfl, hs⟩
  | A :: As, M, h, hs => star_assoc (star_mono (fun _ => id) (fun _ h => stars_un h) hs)
end
theorem RunD.takeU {P : Program} {β : Base} {n : Nat} {ops : Array Oper} {fuel : Nat} {listed : Array Bool} {pend : Pend} {E : Env} {L : List HP} {K : Env → List HP → Prop} (i : Nat) {o : Oper} {j : Nat} {b : Bool} {gd : Tmp} (hi : ops[i]? = some o) (hg : o.guard = some (j, b)) (hj : (ops[j]?).bind (·.dst) = some gd) (hb : E.get gd = some Go.undef) (hd : dstOk n o.dst = true)
    (h : RunD P β n ops fuel (listed.setIfInBounds i true) ((i, []) :: pend) (E.put o.dst Go.undef) L K) (hchk : (Region.noSelect ops && Region.free .any ops listed i && (Region.ready .any ops listed).contains i) = true := by kernel_rfl) : RunD P β n ops (fuel + 1) listed pend E L K := fun a w ha hs hp Q hnp hQ => by
  simp only [Bool.and_eq_true] at hchk
  have hsl : Sat β [] w := hs.gives .nil
  have hw : Region.wanted o (yielded ops a.tmps) = false := by
    have h := ha.env gd _ hb
    have hy : yielded ops a.tmps j = none := by
      unfold yielded
      rw [hj]
      simp only [Option.bind_some]
      rw [Array.getD_eq_getD_getElem?] at h
      cases hd : a.tmps[gd]? with
      | none => rfl
      | some v => rw [hd] at h; simp at h; subst h; rfl
    simp [Region.wanted, hg, hy]
  refine wpAnyS_first hi (Region.noSelect_spec hchk.1.1) (fun c a w h => absurd h (hnp _ _ _)) fuel listed (pend.w β) a w (Region.free_spec hi hchk.1.2) (by simpa using hchk.2) (.inr ⟨hw, rfl⟩) hsl ?_
  exact h (a.put o.dst Go.undef) w (ha.put (dstOk_spec hd) Go.undef) hs (fun p hp' => by
    rcases List.mem_cons.1 hp' with rfl | h'
    · exact hsl
    · exact hp p h') Q hnp hQ
end Go.SL

namespace Go.SL
open Go
abbrev U (n : Int) : Value := .int .u64 n
abbrev i64 (n : Int) : Prop := -9223372036854775808 ≤ n ∧ n ≤ 9223372036854775807
abbrev u64 (n : Int) : Prop := 0 ≤ n ∧ n < 18446744073709551616

theorem wrap_u64 (z : Int) : IntKind.u64.wrap z = z % 18446744073709551616 := by
  simp [IntKind.wrap, IntKind.bits, IntKind.signed]
theorem wrap_u64_in {z : Int} (h : u64 z) : IntKind.u64.wrap z = z := by rw [wrap_u64]; omega
theorem shr_u64 (m : Int) (k : Nat) (hk : k ≤ 64) : m.fdiv (2 ^ (min (k : Int).toNat IntKind.u64.bits)) = m / 2 ^ k := by
  have : min (k : Int).toNat IntKind.u64.bits = k := by simp [IntKind.bits]; omega
  rw [this, Int.fdiv_eq_ediv_of_nonneg _ (Int.pow_nonneg (by decide))]
theorem toNat_ofInt64 {m : Int} (h : u64 m) : (BitVec.ofInt 64 m).toNat = m.toNat := by
  rw [BitVec.toNat_ofInt]; congr 1; omega
theorem and_u64 (m n : Int) (hm : u64 m) (hn : u64 n) : IntKind.u64.wrap ((BitVec.ofInt IntKind.u64.bits m &&& BitVec.ofInt IntKind.u64.bits n).toNat : Int) = ((m.toNat &&& n.toNat : Nat) : Int) := by
  have h1 : (BitVec.ofInt IntKind.u64.bits m &&& BitVec.ofInt IntKind.u64.bits n).toNat = m.toNat &&& n.toNat := by
    show (BitVec.ofInt 64 m &&& BitVec.ofInt 64 n).toNat = _
    rw [BitVec.toNat_and, toNat_ofInt64 hm, toNat_ofInt64 hn]
  rw [h1]
  refine wrap_u64_in ⟨by omega, ?_⟩
  have := Nat.and_le_left (n := m.toNat) (m := n.toNat)
  omega
theorem or_u64 (m n : Int) (hm : u64 m) (hn : u64 n) : IntKind.u64.wrap ((BitVec.ofInt IntKind.u64.bits m ||| BitVec.ofInt IntKind.u64.bits n).toNat : Int) = ((m.toNat ||| n.toNat : Nat) : Int) := by
  have h1 : (BitVec.ofInt IntKind.u64.bits m ||| BitVec.ofInt IntKind.u64.bits n).toNat = m.toNat ||| n.toNat := by
    show (BitVec.ofInt 64 m ||| BitVec.ofInt 64 n).toNat = _
    rw [BitVec.toNat_or, toNat_ofInt64 hm, toNat_ofInt64 hn]
  rw [h1]
  refine wrap_u64_in ⟨by omega, ?_⟩
  have : m.toNat ||| n.toNat < 2 ^ 64 := Nat.or_lt_two_pow (by omega) (by omega)
  omega
theorem and_mask (m : Int) (h : u64 m) : ((m.toNat &&& (4294967295 : Int).toNat : Nat) : Int) = m % 4294967296 := by
  have : m.toNat &&& 4294967295 = m.toNat % 2 ^ 32 := Nat.and_two_pow_sub_one_eq_mod m.toNat 32
  show ((m.toNat &&& 4294967295 : Nat) : Int) = _
  rw [this]; omega
theorem and_one (m : Int) (h : u64 m) : ((m.toNat &&& (1 : Int).toNat : Nat) : Int) = m % 2 := by
  have : m.toNat &&& 1 = m.toNat % 2 ^ 1 := Nat.and_two_pow_sub_one_eq_mod m.toNat 1
  show ((m.toNat &&& 1 : Nat) : Int) = _
  rw [this]; omega
theorem or_add {x y : Int} {k : Nat} (hx : 0 ≤ x) (hy : 0 ≤ y) (hyk : y < 2 ^ k) : (((x * 2 ^ k).toNat ||| y.toNat : Nat) : Int) = x * 2 ^ k + y := by
  obtain ⟨a, rfl⟩ := Int.eq_ofNat_of_zero_le hx
  obtain ⟨b, rfl⟩ := Int.eq_ofNat_of_zero_le hy
  have hb : b < 2 ^ k := by exact_mod_cast hyk
  have h1 : ((a : Int) * 2 ^ k).toNat = a <<< k := by
    rw [Nat.shiftLeft_eq]
    have : ((a : Int) * 2 ^ k) = ((a * 2 ^ k : Nat) : Int) := by push_cast; rfl
    rw [this, Int.toNat_natCast]
  rw [h1, Int.toNat_natCast, ← Nat.shiftLeft_add_eq_or_of_lt hb, Nat.shiftLeft_eq]
  push_cast; rfl

section
variable {P : Program} {β : Base} {E : Env} {L : List HP} {K : Value → List HP → Prop} {d : Option Tmp} {ty : TypeId} {pos : String} {af : Array Edge} {g : Option (Nat × Bool)} {x y : Operand} {t t' : TypeId} {m n : Int} {k' : IntKind}
theorem OpJ.shrU {k : Nat} (hx : E.ev x = some (U m)) (hy : E.ev y = some (.int k' (k : Int))) (hk : k ≤ 64) (h : K (U (m / 2 ^ k)) L) : OpJ P β E L ⟨d, .binOp .shr t x y t', ty, pos, af, g⟩ K :=
  OpJ.shr hx hy (by omega) (by rw [shr_u64 m k hk]; exact h)
theorem OpJ.maskU (hx : E.ev x = some (U m)) (hy : E.ev y = some (U 4294967295)) (hm : u64 m) (h : K (U (m % 4294967296)) L) : OpJ P β E L ⟨d, .binOp .and t x y t', ty, pos, af, g⟩ K :=
  OpJ.band hx hy (by rw [and_u64 m _ hm (by decide), and_mask m hm]; exact h)
theorem OpJ.oneU (hx : E.ev x = some (U m)) (hy : E.ev y = some (U 1)) (hm : u64 m) (h : K (U (m % 2)) L) : OpJ P β E L ⟨d, .binOp .and t x y t', ty, pos, af, g⟩ K :=
  OpJ.band hx hy (by rw [and_u64 m _ hm (by decide), and_one m hm]; exact h)
theorem OpJ.mulU (hx : E.ev x = some (U m)) (hy : E.ev y = some (U n)) (hb : u64 (m * n)) (h : K (U (m * n)) L) : OpJ P β E L ⟨d, .binOp .mul t x y t', ty, pos, af, g⟩ K :=
  OpJ.mul hx hy (by rw [wrap_u64_in hb]; exact h)
theorem OpJ.addU (hx : E.ev x = some (U m)) (hy : E.ev y = some (U n)) (hb : u64 (m + n)) (h : K (U (m + n)) L) : OpJ P β E L ⟨d, .binOp .add t x y t', ty, pos, af, g⟩ K :=
  OpJ.add hx hy (by rw [wrap_u64_in hb]; exact h)
theorem OpJ.subU (hx : E.ev x = some (U m)) (hy : E.ev y = some (U n)) (hb : u64 (m - n)) (h : K (U (m - n)) L) : OpJ P β E L ⟨d, .binOp .sub t x y t', ty, pos, af, g⟩ K :=
  OpJ.sub hx hy (by rw [wrap_u64_in hb]; exact h)
end

theorem mul32 {m n : Int} (hm : 0 ≤ m ∧ m < 4294967296) (hn : 0 ≤ n ∧ n < 4294967296) : 0 ≤ m * n ∧ m * n ≤ 18446744065119617025 := by
  refine ⟨Int.mul_nonneg hm.1 hn.1, ?_⟩
  have h1 : m * n ≤ 4294967295 * n := Int.mul_le_mul_of_nonneg_right (by omega) hn.1
  omega

theorem mul_words (a b : Int) (ha : u64 a) (hb : u64 b) :
    let a1 := a / 2 ^ 32; let a0 := a % 4294967296; let b1 := b / 2 ^ 32; let b0 := b % 4294967296
    let bottom := a0 * b0; let middle := a1 * b0 + bottom / 2 ^ 32; let other := a0 * b1 + middle % 4294967296
    (a1 * b1 + middle / 2 ^ 32 + other / 2 ^ 32) * 18446744073709551616 + (other % 4294967296 * 4294967296 + bottom % 4294967296) = a * b := by
  intro a1 a0 b1 b0 bottom middle other
  have ea : a = a1 * 4294967296 + a0 := by simp only [a1, a0]; omega
  have eb : b = b1 * 4294967296 + b0 := by simp only [b1, b0]; omega
  have eab : a * b = a1 * b1 * 18446744073709551616 + a1 * b0 * 4294967296 + a0 * b1 * 4294967296 + a0 * b0 := by
    rw [ea, eb]
    simp only [Int.add_mul, Int.mul_add]
    have e1 : a1 * 4294967296 * (b1 * 4294967296) = a1 * b1 * 18446744073709551616 := by
      rw [Int.mul_assoc, Int.mul_left_comm 4294967296 b1, ← Int.mul_assoc, (by decide : (4294967296 : Int) * 4294967296 = 18446744073709551616)]
    have e2 : a1 * 4294967296 * b0 = a1 * b0 * 4294967296 := by rw [Int.mul_right_comm]
    have e3 : a0 * (b1 * 4294967296) = a0 * b1 * 4294967296 := by rw [Int.mul_assoc]
    rw [e1, e2, e3]; omega
  rw [eab]
  simp only [other, middle, bottom]
  generalize a1 * b1 = p at *
  generalize a1 * b0 = q at *
  generalize a0 * b1 = r at *
  generalize a0 * b0 = s at *
  clear_value a1 a0 b1 b0
  omega

def mag (n : Int) : Int := if n < 0 then -n else n
def addN (a b : Int) : Int := if -9223372036854775808 ≤ a + b ∧ a + b ≤ 9223372036854775807 then a + b else 0
def addOk (a b : Int) : Bool := decide (-9223372036854775808 ≤ a + b ∧ a + b ≤ 9223372036854775807)
def subN (a b : Int) : Int := if -9223372036854775808 ≤ a - b ∧ a - b ≤ 9223372036854775807 then a - b else 0
def subOk (a b : Int) : Bool := decide (-9223372036854775808 ≤ a - b ∧ a - b ≤ 9223372036854775807)
def awayB (mode : Int) (neg odd : Bool) (r c : Int) : Bool :=
  decide (r ≠ 0) && (if mode = 2 then true else if mode = 3 then decide (c - r ≤ r) else if mode = 4 then (decide (c - r < r) || (decide (r = c - r) && odd)) else if mode = 5 then neg else false)
def signedN (neg : Bool) (size : Int) : Int := if neg then (if 9223372036854775808 < size then 0 else -size) else (if 9223372036854775808 ≤ size then 0 else size)
def signedE (neg : Bool) (size : Int) : Int := if neg then (if 9223372036854775808 < size then 4 else 0) else (if 9223372036854775808 ≤ size then 4 else 0)
theorem mag_conv_neg {n : Int} (h : i64 n) (hn : n < 0) : IntKind.u64.wrap (0 - IntKind.u64.wrap n) = mag n := by
  rw [wrap_u64, wrap_u64]; unfold mag; omega
theorem mag_conv_pos {n : Int} (h : i64 n) (hn : ¬ n < 0) : IntKind.u64.wrap n = mag n := by
  rw [wrap_u64]; unfold mag; omega
theorem mag_u64 {n : Int} (h : i64 n) : u64 (mag n) := by unfold mag; split <;> constructor <;> omega
theorem signed_neg {size : Int} (h : u64 size) (hn : ¬ 9223372036854775808 < size) : IntKind.i64.wrap (IntKind.i64.wrap (0 - IntKind.i64.wrap (IntKind.u64.wrap (size - 1))) - 1) = -size := by
  simp only [IntKind.wrap_i64, wrap_u64]; omega
theorem signed_pos {size : Int} (h : u64 size) (hn : ¬ 9223372036854775808 ≤ size) : IntKind.i64.wrap size = size := wrap_i64_in ⟨by omega, by omega⟩
attribute [irreducible] mag addN addOk subN subOk awayB signedN signedE

theorem mul32u {m n : Int} (hm : 0 ≤ m ∧ m < 4294967296) (hn : 0 ≤ n ∧ n < 4294967296) : u64 (m * n) := by have := mul32 hm hn; exact ⟨this.1, by omega⟩
theorem hi32 {a : Int} (h : u64 a) : 0 ≤ a / 2 ^ 32 ∧ a / 2 ^ 32 < 4294967296 := by constructor <;> omega
theorem lo32 (a : Int) : 0 ≤ a % 4294967296 ∧ a % 4294967296 < 4294967296 := by constructor <;> omega
section
variable {P : Program} {β : Base} {E : Env} {L : List HP} {K : Value → List HP → Prop} {d : Option Tmp} {ty : TypeId} {pos : String} {af : Array Edge} {g : Option (Nat × Bool)} {x y : Operand} {t t' : TypeId} {m n : Int} {k' : IntKind}
theorem shl_u64 (m : Int) (k : Nat) (hk : k ≤ 64) : IntKind.u64.wrap (m * 2 ^ (min (k : Int).toNat IntKind.u64.bits)) = (m * 2 ^ k) % 18446744073709551616 := by
  have : min (k : Int).toNat IntKind.u64.bits = k := by simp [IntKind.bits]; omega
  rw [this, wrap_u64]
theorem OpJ.shl32 (hx : E.ev x = some (U m)) (hy : E.ev y = some (.int k' 32)) (h : K (U (m % 4294967296 * 4294967296)) L) : OpJ P β E L ⟨d, .binOp .shl t x y t', ty, pos, af, g⟩ K :=
  OpJ.shl hx hy (by omega) (by
    have e := shl_u64 m 32 (by omega)
    have e2 : ((32 : Nat) : Int) = 32 := rfl
    rw [e2] at e
    rw [e, show m * 2 ^ 32 % 18446744073709551616 = m % 4294967296 * 4294967296 by omega]; exact h)
theorem OpJ.orShl {a b : Int} (hx : E.ev x = some (U (a * 4294967296))) (hy : E.ev y = some (U b)) (ha : 0 ≤ a ∧ a < 4294967296) (hb : 0 ≤ b ∧ b < 4294967296) (h : K (U (a * 4294967296 + b)) L) : OpJ P β E L ⟨d, .binOp .or t x y t', ty, pos, af, g⟩ K :=
  OpJ.bor hx hy (by
    rw [or_u64 _ _ (by constructor <;> omega) (by constructor <;> omega)]
    have := or_add (x := a) (y := b) (k := 32) ha.1 hb.1 (by omega)
    rw [show a * 4294967296 = a * 2 ^ 32 from rfl, this]; exact h)
end
theorem words_ret {X Y ab : Int} (h : X * 18446744073709551616 + Y = ab) (hy : 0 ≤ Y ∧ Y < 18446744073709551616) : tup [.agg ⟨[U X, U Y]⟩] = .agg ⟨[U (ab / 18446744073709551616), U (ab % 18446744073709551616)]⟩ := by
  rw [show X = ab / 18446744073709551616 by omega, show Y = ab % 18446744073709551616 by omega]; rfl
def mulN (a b : Int) : Int := if -9223372036854775808 ≤ a * b ∧ a * b ≤ 9223372036854775807 then a * b else 0
def mulOk (a b : Int) : Bool := decide (-9223372036854775808 ≤ a * b ∧ a * b ≤ 9223372036854775807)
attribute [irreducible] mulN mulOk
end Go.SL

namespace Go.SL
open Go
section
variable {P : Program} {β : Base} {E : Env} {L L' M M' : List HP} {K : Value → List HP → Prop} {d : Option Tmp} {ty : TypeId} {pos : String} {af : Array Edge} {g : Option (Nat × Bool)} {x y : Operand} {t t' : TypeId} {k k' : IntKind} {m n : Int}
end
end Go.SL

namespace Go.SL
open Go
section
variable {P : Program} {β : Base} {E : Env} {L L' M M' : List HP} {K : Value → List HP → Prop} {d : Option Tmp} {ty : TypeId} {pos : String} {af : Array Edge} {g : Option (Nat × Bool)} {x y : Operand} {t t' : TypeId} {e : TypeId} {k : Nat} {α : Type} {enc : α → List Value}
theorem own.take {T : TypeId} {oa : Option Addr} {n cap : Nat} {xs ys : List α} (i : Nat) (hk : ∀ x, (enc x).length = k) (e : xs.take i = ys) : RdS (own T k oa n cap (xs.flatMap enc)) oa (ys.flatMap enc) := fun h hh => by
  subst e
  rcases own.rds h hh with h0 | ⟨b, o, e, c, t, fr, hb, hc⟩
  · left; rw [flat_take hk, h0]; simp
  · right; refine ⟨b, o, e, c, t, fr, hb, fun j v hj => hc j v ?_⟩
    rw [flat_take hk, List.getElem?_take] at hj
    split at hj
    · exact hj
    · cases hj
theorem own.drop {T : TypeId} {b n cap : Nat} {xs ys : List α} (i : Nat) (hk : ∀ x, (enc x).length = k) (e : xs.drop i = ys) (hn : n = xs.length) (hc : n ≤ cap) : RdS (own T k (some ⟨b, 0, none⟩) n cap (xs.flatMap enc)) (some (if cap = i then ⟨b, 0, none⟩ else ⟨b, 0 + i * k, none⟩)) (ys.flatMap enc) := fun h hh => by
  subst e
  by_cases hi : cap = i
  · left; rw [List.drop_of_length_le (by omega)]; rfl
  · rcases own.rds h hh with h0 | ⟨b', o, e, c, t, fr, hb, hc⟩
    · left; rw [flat_drop hk, h0]; simp
    · right; rw [if_neg hi]
      simp only [Option.some.injEq, Addr.mk.injEq, and_true] at e
      obtain ⟨rfl, rfl⟩ := e
      refine ⟨b, 0 + i * k, rfl, c, t, fr, hb, fun j v hj => ?_⟩
      rw [flat_drop hk, List.getElem?_drop] at hj
      rw [Nat.add_assoc]; exact hc _ _ hj
end
end Go.SL

namespace Go.SL
open Go
section
variable {P : Program} {β : Base} {E : Env} {L L' M M' : List HP} {K : Value → List HP → Prop} {d : Option Tmp} {ty : TypeId} {pos : String} {af : Array Edge} {g : Option (Nat × Bool)} {x y : Operand} {t t' : TypeId}
theorem OpJ.geqS {s u : ByteArray} (hx : E.ev x = some (.string s)) (hy : E.ev y = some (.string u)) (h : K (.bool (!(Op.bytesLess s.toList u.toList))) L) : OpJ P β E L ⟨d, .binOp .geq t x y t', ty, pos, af, g⟩ K :=
  OpJ.same (fun a w ha _ => by simp [execOp, ha.ev hx, ha.ev hy, eqGuard, binOp, Op.stringOp]) h
end
end Go.SL
