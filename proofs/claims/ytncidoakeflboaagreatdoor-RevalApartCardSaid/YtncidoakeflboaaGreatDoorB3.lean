/- Laws of the walks and of the models, part 3 (merged by program). -/
import Derived.Test.YtncidoakeflboaaGreatDoorB2
import Derived.KernelRfl
set_option linter.unusedVariables false
set_option linter.unusedSimpArgs false
set_option maxRecDepth 20000
set_option maxHeartbeats 4000000
namespace Go.SL
open Go
structure Rk where
  xa : Option Addr
  xc : Nat
  xs : List Ac
  base : ByteArray
  ra : Option Addr
  rc : Nat
  rs : List Rt
  ca : Option Addr
  cc : Nat
  cs : List Cl
  ent : ByteArray
  day : Int
  book : Int
  mode : Int
  gain : ByteArray
  loss : ByteArray
  who : ByteArray
def Rk.c (x : Rk) : List Value := [.slice x.xa x.xs.length x.xc, St x.base, .slice x.ra x.rs.length x.rc, .slice x.ca x.cs.length x.cc, St x.ent, I x.day, I x.book, I x.mode, St x.gain, St x.loss, St x.who]
structure Rt.sz (r : Rt) : Prop where
  cur : (r.cur.size : Int) ≤ 9223372036854775807
  n : i64 r.n
  d : i64 r.d
  kind : i64 r.kind
  day : i64 r.day
structure Cl.sz (x : Cl) : Prop where
  q : ClQ x
  ent : szS x.k.ent
  acc : szS x.k.acc
  partner : szS x.k.partner
structure Rk.rd (R : HP) (x : Rk) : Prop where
  xr : RdS R x.xa (x.xs.flatMap Ac.c)
  xe : ∀ a ∈ x.xs, a.rd R ∧ a.sz
  xl : x.xs.length ≤ 140737488355328
  rr : RdS R x.ra (x.rs.flatMap Rt.c)
  re : ∀ r ∈ x.rs, r.sz
  rl : x.rs.length ≤ 140737488355328
  cr : RdS R x.ca (x.cs.flatMap Cl.c)
  ce : ∀ c ∈ x.cs, c.sz
  cl : x.cs.length ≤ 140737488355328
  id : i64 x.day
  ib : i64 x.book
  im : i64 x.mode
  zs : szS x.base ∧ szS x.ent ∧ szS x.gain ∧ szS x.loss ∧ szS x.who
structure Rk.few (x : Rk) : Prop where
  xs : x.xs.length ≤ 80
  rs : x.rs.length ≤ 60
  cs : x.cs.length ≤ 60
def Rk.p (x : Rk) : Rv := ⟨x.xs, x.base, x.rs, x.day, x.mode, x.gain, x.loss⟩
def Rk.ok (x : Rk) : Bool := chartB x.xs && fxB x.base x.rs
def Rk.run (x : Rk) : En × Int := if x.ok = true then x.p.entry x.cs x.ent x.who x.book else (en0, 1)
def Rk.lns (x : Rk) : List Ln × Int := if x.ok = true then x.p.lines x.cs else ([], 1)
theorem ok_some {x : Rk} {o : Option Chv} {u : Option Fxv} (ho : o.isSome = chartB x.xs) (hu : u.isSome = fxB x.base x.rs) : (o.isSome = true ∧ u.isSome = true) ↔ x.ok = true := by unfold Rk.ok; rw [ho, hu, Bool.and_eq_true]
theorem run_of {x : Rk} {o : Option Chv} {u : Option Fxv} (ho : o.isSome = chartB x.xs) (hu : u.isSome = fxB x.base x.rs) : reX o u (⟨x.xs, x.base, x.rs, x.day, x.mode, x.gain, x.loss⟩ : Rv) x.cs x.ent x.who x.book = x.run := by
  unfold Rk.run
  by_cases h : x.ok = true
  · rw [if_pos h, reX_yes ((ok_some ho hu).2 h)]; rfl
  · rw [if_neg h, reX_no (fun h2 => h ((ok_some ho hu).1 h2))]
theorem entry_err {p : Rv} {l : List Cl} {ent who : ByteArray} {book : Int} (h : ¬ (p.entry l ent who book).2 = 0) : (p.entry l ent who book).1 = en0 := by
  unfold Rv.entry at h ⊢
  repeat' split
  all_goals first | rfl | (exfalso; apply h; simp_all)
structure EnOk (p : Rv) (l : List Cl) (ent who : ByteArray) (book : Int) (e : En) : Prop where
  sh : shB l = true
  go : (p.go (ofE ent l)).2 = 0
  mg : (mergeL (p.go (ofE ent l)).1).2 = 0
  ls : e.lines = (mergeL (p.go (ofE ent l)).1).1
  ne : e.lines ≠ []
  eq : e = enR ent who book p.day (mergeL (p.go (ofE ent l)).1).1
  chk : (chkN e).2 = 0
theorem entry_ok {p : Rv} {l : List Cl} {ent who : ByteArray} {book : Int} (h : (p.entry l ent who book).2 = 0) : EnOk p l ent who book (p.entry l ent who book).1 := by
  by_cases hs : shB l = false
  · rw [rve_sh hs] at h; cases h
  have hs2 : shB l = true := by simpa using hs
  by_cases hg : (p.go (ofE ent l)).2 = 0
  · by_cases hm : (mergeL (p.go (ofE ent l)).1).2 = 0
    · by_cases hn : (mergeL (p.go (ofE ent l)).1).1 = []
      · unfold Rv.entry at h; rw [if_neg hs, if_pos hg, if_pos hm, if_pos hn] at h; cases h
      · by_cases hc : (chkN (enR ent who book p.day (mergeL (p.go (ofE ent l)).1).1)).2 = 0
        · have e : p.entry l ent who book = (enR ent who book p.day (mergeL (p.go (ofE ent l)).1).1, 0) := by unfold Rv.entry; rw [if_neg hs, if_pos hg, if_pos hm, if_neg hn, if_pos hc]
          rw [e]; exact ⟨hs2, hg, hm, rfl, hn, rfl, hc⟩
        · have e : p.entry l ent who book = (en0, (chkN (enR ent who book p.day (mergeL (p.go (ofE ent l)).1).1)).2) := by unfold Rv.entry; rw [if_neg hs, if_pos hg, if_pos hm, if_neg hn, if_neg hc]
          rw [e] at h; exact absurd h hc
    · unfold Rv.entry at h; rw [if_neg hs, if_pos hg, if_neg hm] at h; exact absurd h hm
  · rw [rve_go hs2 hg] at h; exact absurd h hg
theorem rk_err {x : Rk} (h : ¬ x.run.2 = 0) : x.run.1 = en0 := by
  unfold Rk.run at h ⊢
  split
  · rename_i hk; rw [if_pos hk] at h; exact entry_err h
  · rfl
theorem rk_ok {x : Rk} (h : x.run.2 = 0) : x.ok = true ∧ EnOk x.p x.cs x.ent x.who x.book x.run.1 := by
  unfold Rk.run at h ⊢
  by_cases hk : x.ok = true
  · rw [if_pos hk] at h ⊢; exact ⟨hk, entry_ok h⟩
  · rw [if_neg hk] at h; cases h
theorem lns_for {p : Rv} {x : Cl} {ts : List Tg} {d : Int} (hc : ¬ x.k.cur = p.base) : ∀ y ∈ p.lns x ts d, y.amt = 0 ∧ ¬ y.cur = p.base := fun y hy => by
  unfold Rv.lns at hy
  split at hy
  · cases hy
  · simp only [List.mem_cons, List.not_mem_nil, or_false] at hy
    rcases hy with rfl | rfl <;> exact ⟨rfl, hc⟩
theorem one_for {p : Rv} {x : Cl} : ∀ y ∈ (p.one x).1, y.amt = 0 ∧ ¬ y.cur = p.base := by
  unfold Rv.one
  split
  · intro y h; cases h
  · split
    · intro y h; cases h
    · split
      · intro y h; cases h
      · rename_i hb
        split
        · exact lns_for fun h => hb (.inr h)
        · intro y h; cases h
theorem go_for {p : Rv} : ∀ {l : List Cl}, ∀ y ∈ (p.go l).1, y.amt = 0 ∧ ¬ y.cur = p.base
  | [] => fun y h => by cases h
  | x :: t => fun y hy => by
    simp only [Rv.go] at hy
    split at hy
    · split at hy
      · rcases List.mem_append.1 hy with hy | hy
        · exact one_for y hy
        · exact go_for y hy
      · cases hy
    · cases hy
theorem sum_zero : ∀ {l : List Int}, (∀ n ∈ l, n = 0) → l.sum = 0
  | [], _ => rfl
  | n :: l, h => by rw [List.sum_cons, h n (by simp), sum_zero fun m hm => h m (by simp [hm])]; rfl
theorem merge_for {p : Rv} {l : List Cl} : ∀ z ∈ (mergeL (p.go l).1).1, z.amt = 0 ∧ ¬ z.cur = p.base := fun z hz => by
  obtain ⟨y, hy, rfl, _⟩ := merge_mem z hz
  refine ⟨sum_zero fun n hn => ?_, (go_for y hy).2⟩
  obtain ⟨u, hu, rfl⟩ := List.mem_map.1 hn
  exact (go_for u (List.mem_filter.1 hu).1).1
structure EnY (x : Rk) (y : En) : Prop where
  ok : x.ok = true
  o : EnOk x.p x.cs x.ent x.who x.book x.run.1
  len : 1 ≤ y.lines.length ∧ y.lines.length ≤ 100
  amt : ∀ z ∈ y.lines, z.amt = 0 ∧ ¬ z.cur = x.base
  bal : balB y.lines = true
  line : ∀ z ∈ y.lines, lineE z = 0
  ls : y.lines.map Ln.e = x.run.1.lines
theorem run_y {x : Rk} {y : En} (h : y.e = x.run.1) (h0 : x.run.2 = 0) : EnY x y := by
  obtain ⟨hk, ho⟩ := rk_ok h0
  have hl : y.lines.map Ln.e = x.run.1.lines := congrArg En.lines h
  have hb := chk_bal ho.chk
  have hlen : y.lines.length = x.run.1.lines.length := by rw [← hl, List.length_map]
  have hh := head_len hb.1
  refine ⟨hk, ho, ⟨?_, by omega⟩, fun z hz => ?_, ?_, fun z hz => ?_, hl⟩
  · have h1 := ho.ne
    cases hq : x.run.1.lines with
    | nil => exact absurd hq h1
    | cons a b => rw [hlen, hq]; simp
  · have h1 : z.e ∈ x.run.1.lines := by rw [← hl]; exact List.mem_map_of_mem hz
    rw [ho.ls] at h1
    exact merge_for z.e h1
  · rw [← balB_e, hl]; exact hb.2
  · have h1 : z.e ∈ x.run.1.lines := by rw [← hl]; exact List.mem_map_of_mem hz
    have := chk_lines ho.chk z.e h1
    rw [lineE_e] at this; exact this
theorem run_n {x : Rk} {y : En} (h : y.e = x.run.1) (h0 : ¬ x.run.2 = 0) : y.lines = [] := by
  rw [rk_err h0] at h
  have := congrArg En.lines h
  exact List.map_eq_nil_iff.1 this
abbrev s12 : ByteArray := ⟨#[49, 50]⟩
abbrev s13 : ByteArray := ⟨#[49, 51]⟩
abbrev s41 : ByteArray := ⟨#[52, 49]⟩
abbrev s52 : ByteArray := ⟨#[53, 50]⟩
abbrev sUSD : ByteArray := ⟨#[85, 83, 68]⟩
abbrev xsK : List Ac := [⟨s12, bs0, 1, true, bs0, true, false, none, 0, []⟩, ⟨s13, bs0, 1, true, bs0, false, false, none, 0, []⟩, ⟨s41, bs0, 4, true, bs0, false, false, none, 0, []⟩]
abbrev csK : List Cl := [⟨⟨sa, s12, sEUR, bs0, bs0⟩, 7, 7⟩, ⟨⟨sa, s12, sUSD, bs0, bs0⟩, 100, 85⟩, ⟨⟨sa, s13, sUSD, bs0, bs0⟩, 10, 5⟩]
abbrev rsK : List Rt := [⟨sUSD, 1, 1, 9, 10⟩]
abbrev exK (b1 b2 b3 : Nat) : Rk := ⟨bpt b1, 3, xsK, sEUR, bpt b2, 1, rsK, bpt b3, 3, csK, sa, 9, 10, 3, s41, s52, su⟩
abbrev lnK : List Ln := [⟨s12, sUSD, 0, 5, bs0, bs0, none, 0, []⟩, ⟨s41, sUSD, 0, -5, bs0, bs0, none, 0, []⟩]
theorem liv_run (b1 b2 b3 : Nat) : (exK b1 b2 b3).run = (⟨0, sa, 10, 9, 6, bs0, su, 0, none, 0, lnK⟩, 0) := by kernel_rfl
theorem livk_lines {y : En} {b1 b2 b3 : Nat} (h : y.e = (exK b1 b2 b3).run.1) : y.value = 9 ∧ y.kind = 6 ∧ y.book = 10 ∧ y.lines.map Ln.e = lnK.map Ln.e := by
  rw [liv_run] at h
  exact ⟨congrArg En.value h, congrArg En.kind h, congrArg En.book h, congrArg En.lines h⟩
theorem livk_sz {ls : List Ln} (h : ls.map Ln.e = lnK.map Ln.e) : ls.length = 2 ∧ ∀ z ∈ ls, z.tags = [] := by
  have hl := congrArg List.length h
  simp only [List.length_map] at hl
  refine ⟨hl, fun z hz => ?_⟩
  have h1 : z.e ∈ lnK.map Ln.e := h ▸ List.mem_map_of_mem hz
  simp only [List.map_cons, List.map_nil, List.mem_cons, List.not_mem_nil, or_false] at h1
  rcases h1 with h1 | h1 <;> exact congrArg (fun u : Ln => u.tags) h1
theorem exk_few {b1 b2 b3 : Nat} : (exK b1 b2 b3).few := ⟨(show xsK.length ≤ 80 by decide), (show rsK.length ≤ 60 by decide), (show csK.length ≤ 60 by decide)⟩
theorem lnk_rds {Q : HP} : ∀ z ∈ lnK, RdS Q z.ta (z.tags.flatMap Tg.c) := fun z hz => by
  simp only [List.mem_cons, List.not_mem_nil, or_false] at hz
  rcases hz with rfl | rfl <;> exact RdS.nil
section
variable {T U V : TypeId} {b1 b2 b3 : Nat} {R : HP}
abbrev exR (T U V : TypeId) (b1 b2 b3 : Nat) (R : HP) : HP := stars [pt b1 (blk (xsK.flatMap Ac.c) T), pt b2 (blk (rsK.flatMap Rt.c) U), pt b3 (blk (csK.flatMap Cl.c) V), R]
theorem exk_0 (h : Rd R ⟨0, 0, none⟩ lensC) : Rd (exR T U V b1 b2 b3 R) ⟨0, 0, none⟩ lensC := (RdS.inr (RdS.inr (RdS.inr (RdS.inl (Rd.rds h))))).rd (by simp [lensC, lensL])
theorem exk_1 {m0 : Int} (h : Rd R ⟨1, 0, none⟩ [I m0]) : Rd (exR T U V b1 b2 b3 R) ⟨1, 0, none⟩ [I m0] := (RdS.inr (RdS.inr (RdS.inr (RdS.inl (Rd.rds h))))).rd (by simp)
theorem exk_rd : (exK b1 b2 b3).rd (exR T U V b1 b2 b3 R) := by
  refine ⟨RdS.inl (Rd.rds Rd.whole), fun a ha => ?_, (show xsK.length ≤ 140737488355328 by decide), RdS.inr (RdS.inl (Rd.rds Rd.whole)), fun r hr => ?_, (show rsK.length ≤ 140737488355328 by decide), RdS.inr (RdS.inr (RdS.inl (Rd.rds Rd.whole))), fun c hc => ?_, (show csK.length ≤ 140737488355328 by decide), (show i64 9 by decide), (show i64 10 by decide), (show i64 3 by decide), (show szS sEUR ∧ szS sa ∧ szS s41 ∧ szS s52 ∧ szS su by decide)⟩
  · simp only [List.mem_cons, List.not_mem_nil, or_false] at ha
    rcases ha with rfl | rfl | rfl <;> exact ⟨⟨RdS.nil, by decide, by decide⟩, ⟨by decide, by decide, by decide, fun n hn => by cases hn⟩⟩
  · simp only [List.mem_cons, List.not_mem_nil, or_false] at hr
    rcases hr with rfl
    exact ⟨by decide, by decide, by decide, by decide, by decide⟩
  · simp only [List.mem_cons, List.not_mem_nil, or_false] at hc
    rcases hc with rfl | rfl | rfl <;> exact ⟨⟨by decide, by decide, by decide, by decide⟩, by decide, by decide, by decide⟩
end
end Go.SL

namespace Go.SL
open Go
theorem last_top : ∀ {f : List Rt} {r : Rt}, f.Pairwise ltD → r ∈ f → (∀ y ∈ f, y.day ≤ r.day) → f.getLast? = some r
  | [], r, _, h, _ => by cases h
  | [x], r, _, h, _ => by rw [List.mem_singleton.1 h]; rfl
  | x :: y :: t, r, hp, h, hm => by
    rw [List.pairwise_cons] at hp
    rcases List.mem_cons.1 h with rfl | h
    · have h1 : r.day < y.day := hp.1 y (by simp)
      have := hm y (by simp)
      omega
    · have := last_top hp.2 h fun z hz => hm z (by simp [hz])
      rw [List.getLast?_cons_cons]; exact this
abbrev cand (c : ByteArray) (k day : Int) (r : Rt) : Prop := r.cur = c ∧ r.kind = k ∧ r.day ≤ day
structure FndI (l : List Rt) (c : ByteArray) (k day : Int) (i : Nat) (b : Option Nat) : Prop where
  no : b = none → ∀ (j : Nat) y, j < i → l[j]? = some y → ¬ cand c k day y
  yes : ∀ j, b = some j → j < i ∧ ∃ r, l[j]? = some r ∧ cand c k day r ∧ ∀ (q : Nat) y, q < i → l[q]? = some y → cand c k day y → y.day ≤ r.day
theorem FndI.start {l : List Rt} {c : ByteArray} {k day : Int} : FndI l c k day 0 none := ⟨fun _ j y h => by omega, fun j h => by cases h⟩
theorem FndI.skip {l : List Rt} {c : ByteArray} {k day : Int} {i : Nat} {b : Option Nat} {x : Rt} (h : FndI l c k day i b) (hx : l[i]? = some x) (hn : ¬ cand c k day x) : FndI l c k day (i + 1) b := by
  refine ⟨fun hb j y hj hy => ?_, fun j hb => ?_⟩
  · by_cases e : j = i
    · subst e; rw [hx] at hy; cases hy; exact hn
    · exact h.no hb j y (by omega) hy
  · obtain ⟨h1, r, h2, h3, h4⟩ := h.yes j hb
    refine ⟨by omega, r, h2, h3, fun q y hq hy hc => ?_⟩
    by_cases e : q = i
    · subst e; rw [hx] at hy; cases hy; exact absurd hc hn
    · exact h4 q y (by omega) hy hc
theorem FndI.keep {l : List Rt} {c : ByteArray} {k day : Int} {i j : Nat} {x r : Rt} (h : FndI l c k day i (some j)) (hx : l[i]? = some x) (hr : l[j]? = some r) (hd : x.day ≤ r.day) : FndI l c k day (i + 1) (some j) := by
  refine ⟨(fun hb => by cases hb), fun j2 hb => ?_⟩
  cases hb
  obtain ⟨h1, r2, h2, h3, h4⟩ := h.yes j rfl
  rw [hr] at h2; cases h2
  refine ⟨by omega, r, hr, h3, fun q y hq hy hc => ?_⟩
  by_cases e : q = i
  · subst e; rw [hx] at hy; cases hy; exact hd
  · exact h4 q y (by omega) hy hc
theorem FndI.first {l : List Rt} {c : ByteArray} {k day : Int} {i : Nat} {x : Rt} (h : FndI l c k day i none) (hx : l[i]? = some x) (hc : cand c k day x) : FndI l c k day (i + 1) (some i) := by
  refine ⟨(fun hb => by cases hb), fun j hb => ?_⟩
  cases hb
  refine ⟨by omega, x, hx, hc, fun q y hq hy hcy => ?_⟩
  by_cases e : q = i
  · subst e; rw [hx] at hy; cases hy; exact Int.le_refl _
  · exact absurd hcy (h.no rfl q y (by omega) hy)
theorem FndI.new {l : List Rt} {c : ByteArray} {k day : Int} {i j : Nat} {x r : Rt} (h : FndI l c k day i (some j)) (hx : l[i]? = some x) (hc : cand c k day x) (hr : l[j]? = some r) (hd : r.day < x.day) : FndI l c k day (i + 1) (some i) := by
  refine ⟨(fun hb => by cases hb), fun j2 hb => ?_⟩
  cases hb
  obtain ⟨h1, r2, h2, h3, h4⟩ := h.yes j rfl
  rw [hr] at h2; cases h2
  refine ⟨by omega, x, hx, hc, fun q y hq hy hcy => ?_⟩
  by_cases e : q = i
  · subst e; rw [hx] at hy; cases hy; exact Int.le_refl _
  · have := h4 q y (by omega) hy hcy; omega
theorem fx_ser {base : ByteArray} {l : List Rt} (hf : fxB base l = true) (c : ByteArray) (k : Int) : (serL l c k).Pairwise ltD := by
  unfold fxB at hf
  simp only [Bool.and_eq_true, decide_eq_true_eq] at hf
  have h := fxG_at.1 hf.2
  have := ser_pair (base := base) (l := l) c k (i := l.length) (fun j r _ hr => by have := h j r hr; simpa using this) (Nat.le_refl _)
  rw [List.take_length] at this; exact this
theorem FndI.none {base : ByteArray} {l : List Rt} {c : ByteArray} {k day : Int} {i : Nat} (h : FndI l c k day i none) (hi : l.length ≤ i) : lastRq day (serL l c k) = none := by
  cases hq : lastRq day (serL l c k) with
  | none => rfl
  | some r =>
    have hm := List.mem_filter.1 (List.mem_of_getLast? hq)
    obtain ⟨h1, h2, h3⟩ := ser_mem.1 hm.1
    obtain ⟨j, hj⟩ := List.getElem?_of_mem h1
    exact absurd ⟨h2, h3, by simpa using hm.2⟩ (h.no rfl j r (by have := (List.getElem?_eq_some_iff.1 hj).1; omega) hj)
theorem FndI.some {base : ByteArray} {l : List Rt} (hf : fxB base l = true) {c : ByteArray} {k day : Int} {i j : Nat} {r : Rt} (h : FndI l c k day i (some j)) (hi : l.length ≤ i) (hr : l[j]? = some r) : lastRq day (serL l c k) = some r := by
  obtain ⟨h1, r2, h2, h3, h4⟩ := h.yes j rfl
  rw [hr] at h2; cases h2
  refine last_top ((fx_ser hf c k).filter _) (List.mem_filter.2 ⟨ser_mem.2 ⟨List.mem_of_getElem? hr, h3.1, h3.2.1⟩, by simpa using h3.2.2⟩) fun y hy => ?_
  have hm := List.mem_filter.1 hy
  obtain ⟨a1, a2, a3⟩ := ser_mem.1 hm.1
  obtain ⟨q, hq⟩ := List.getElem?_of_mem a1
  exact h4 q y (by have := (List.getElem?_eq_some_iff.1 hq).1; omega) hq ⟨a2, a3, by simpa using hm.2⟩
section
variable {base : ByteArray} {l : List Rt} {c : ByteArray} {k day : Int}
end
end Go.SL

namespace Go.SL
open Go
def Rk.wc (x : Rk) (a : Option Addr) (c : Nat) (s : List Cl) : Rk := ⟨x.xa, x.xc, x.xs, x.base, x.ra, x.rc, x.rs, a, c, s, x.ent, x.day, x.book, x.mode, x.gain, x.loss, x.who⟩
theorem lw_eq {n : Int} : withinB n = !largeB n := by
  unfold withinB largeB
  rw [Bool.eq_iff_iff]; simp; omega
theorem cel_wa {x : Cl} (h : withinB x.amt = false) : celB x = false := by unfold celB; simp [h]
theorem cel_wb {x : Cl} (h : withinB x.base = false) : celB x = false := by unfold celB; simp [h]
theorem ofE_step {ent : ByteArray} {l : List Cl} {i : Nat} {y : Cl} (h : l[i]? = some y) : ofE ent (l.take (i + 1)) = ofE ent (l.take i) ++ (if y.k.ent = ent then [y] else []) := by
  unfold ofE; rw [take_step h, List.filter_append]; by_cases hq : y.k.ent = ent <;> simp [hq]
theorem sh_pair : ∀ {l : List Cl}, shB l = true ↔ (∀ x ∈ l, celB x = true) ∧ l.Pairwise fun a b => cmpK a.k b.k < 0
  | [] => by simp [shB]
  | [x] => by simp [shB]
  | x :: y :: t => by
    rw [shB, Bool.and_eq_true, Bool.and_eq_true, decide_eq_true_eq, sh_pair (l := y :: t)]
    constructor
    · rintro ⟨⟨h1, h2⟩, h3, h4⟩
      refine ⟨fun z hz => ?_, List.Pairwise.cons (fun z hz => ?_) h4⟩
      · rcases List.mem_cons.1 hz with rfl | hz
        · exact h1
        · exact h3 z hz
      · rcases List.mem_cons.1 hz with rfl | hz
        · exact h2
        · exact ltK_trans h2 ((List.pairwise_cons.1 h4).1 z hz)
    · rintro ⟨h1, h2⟩
      rw [List.pairwise_cons] at h2
      exact ⟨⟨h1 x (by simp), h2.1 y (by simp)⟩, fun z hz => h1 z (by simp [hz]), h2.2⟩
theorem sh_of {l : List Cl} {ent : ByteArray} (h : shB l = true) : shB (ofE ent l) = true := by
  obtain ⟨h1, h2⟩ := sh_pair.1 h
  exact sh_pair.2 ⟨fun x hx => h1 x (List.mem_filter.1 hx).1, h2.filter _⟩
theorem ofE_ofE {ent : ByteArray} {l : List Cl} : ofE ent (ofE ent l) = ofE ent l := by unfold ofE; rw [List.filter_filter]; simp
theorem apart_entry {p : Rv} {l : List Cl} {ent who : ByteArray} {book : Int} (h : shB l = true) : p.entry (ofE ent l) ent who book = p.entry l ent who book := by
  unfold Rv.entry
  rw [h, sh_of h, ofE_ofE]
theorem apart_run {x : Rk} {a : Option Addr} {c : Nat} (h : shB x.cs = true) : (x.wc a c (ofE x.ent x.cs)).run = x.run := by
  unfold Rk.run
  have e : x.p.entry (ofE x.ent x.cs) x.ent x.who x.book = x.p.entry x.cs x.ent x.who x.book := apart_entry h
  show (if x.ok = true then x.p.entry (ofE x.ent x.cs) x.ent x.who x.book else (en0, 1)) = _
  rw [e]
theorem Rk.rd_in {A R : HP} {x : Rk} (h : x.rd R) : x.rd (stars [A, R]) := by
  have up : ∀ {oa : Option Addr} {cs : List Value}, RdS R oa cs → RdS (stars [A, R]) oa cs := fun h => RdS.inr (RdS.inl h)
  exact ⟨up h.xr, fun a ha => ⟨⟨up (h.xe a ha).1.1, (h.xe a ha).1.2⟩, (h.xe a ha).2⟩, h.xl, up h.rr, h.re, h.rl, up h.cr, h.ce, h.cl, h.id, h.ib, h.im, h.zs⟩
theorem Rk.rd_wc {A R : HP} {x : Rk} {a : Option Addr} {c : Nat} {s : List Cl} (h : x.rd R) (hA : RdS A a (s.flatMap Cl.c)) (hz : ∀ y ∈ s, y.sz) (hl : s.length ≤ 140737488355328) : (x.wc a c s).rd (stars [A, R]) := by
  have h2 := Rk.rd_in (A := A) h
  exact ⟨h2.xr, h2.xe, h2.xl, h2.rr, h2.re, h2.rl, RdS.inl hA, hz, hl, h2.id, h2.ib, h2.im, h2.zs⟩
theorem Rk.few.wc {x : Rk} {a : Option Addr} {c : Nat} {s : List Cl} (h : x.few) (hl : s.length ≤ x.cs.length) : (x.wc a c s).few := ⟨h.xs, h.rs, Nat.le_trans hl h.cs⟩
theorem run_sz {x : Rk} {y : En} (h : y.e = x.run.1) : y.lines.length ≤ 140737488355328 ∧ ∀ z ∈ y.lines, z.tags.length ≤ 140737488355328 := by
  by_cases h0 : x.run.2 = 0
  · have hy := run_y h h0
    refine ⟨by have := hy.len; omega, fun z hz => ?_⟩
    have := hy.line z hz
    unfold lineE at this
    repeat' split at this
    all_goals first | (exact absurd this (by decide)) | skip
    rename_i hr
    have := right_len (ts := z.tags) (by simpa using hr)
    omega
  · rw [run_n h h0]; exact ⟨Nat.zero_le _, fun z hz => by cases hz⟩
end Go.SL
