/- Laws of the walks and of the models, part 3 (merged by program). -/
import Derived.Test.YtncidoakeflboaaGreatDoorA2
import Derived.KernelRfl
set_option linter.unusedVariables false
set_option linter.unusedSimpArgs false
set_option maxRecDepth 20000
set_option maxHeartbeats 4000000
namespace Go.SL
open Go
def Rv.wi (p : Rv) (m : List Ac) : Rv := ⟨m, p.base, p.rs, p.day, p.mode, p.gain, p.loss⟩
theorem one_st {p : Rv} {m : List Ac} (h : m.map Ac.st = p.xs.map Ac.st) (x : Cl) : (p.wi m).one x = p.one x := by
  have hg := get_st (code := x.k.acc) h
  unfold Rv.one Rv.wi
  cases h1 : getL m x.k.acc <;> cases h2 : getL p.xs x.k.acc <;> rw [h1, h2] at hg <;> simp at hg ⊢
  have e1 := congrArg Ac.mon hg
  simp only [Ac.st] at e1
  rw [e1]; rfl
theorem go_st {p : Rv} {m : List Ac} (h : m.map Ac.st = p.xs.map Ac.st) : ∀ l, (p.wi m).go l = p.go l
  | [] => rfl
  | x :: t => by simp only [Rv.go, one_st h, go_st h t]
theorem rve_st {p : Rv} {m : List Ac} (h : m.map Ac.st = p.xs.map Ac.st) (l : List Cl) (ent who : ByteArray) (book : Int) : (p.wi m).entry l ent who book = p.entry l ent who book := by
  unfold Rv.entry
  rw [go_st h]; rfl
def Rv.lines (p : Rv) (xs : List Cl) : List Ln × Int := if shB xs = false then ([], 2) else p.go xs
def reX (o : Option Chv) (u : Option Fxv) (p : Rv) (xs : List Cl) (ent who : ByteArray) (book : Int) : En × Int := if o.isSome = true ∧ u.isSome = true then p.entry xs ent who book else (en0, 1)
theorem reX_no {o : Option Chv} {u : Option Fxv} {p : Rv} {xs : List Cl} {ent who : ByteArray} {book : Int} (h : ¬ (o.isSome = true ∧ u.isSome = true)) : reX o u p xs ent who book = (en0, 1) := if_neg h
theorem reX_yes {o : Option Chv} {u : Option Fxv} {p : Rv} {xs : List Cl} {ent who : ByteArray} {book : Int} (h : o.isSome = true ∧ u.isSome = true) : reX o u p xs ent who book = p.entry xs ent who book := if_pos h
section
variable {C S F T : TypeId} {c : Chv} {z : Fxv} {A B R : HP}
theorem cf_in {h : Hp} (hh : stars [chH C S (some c), fxH F T (some z), R] h) : stars [pt c.b (blk [.map (some c.bm), c.v, c.w] C), amap c.bm acF acG c.m, big (ndH S) c.m, pt z.b (blk [St z.base, I z.n, .map (some z.bm)] F), amap z.bm srF srG z.m, big (srH T) z.m, R] h := by
  have h1 : stars [pt c.b (blk [.map (some c.bm), c.v, c.w] C), amap c.bm acF acG c.m, big (ndH S) c.m, fxH F T (some z), R] h :=
    stars_mk (As := [pt c.b (blk [.map (some c.bm), c.v, c.w] C), amap c.bm acF acG c.m, big (ndH S) c.m]) (M := [fxH F T (some z), R]) hh
  refine star_mono (fun _ h => h) (fun _ h2 => ?_) h1
  refine star_mono (fun _ h => h) (fun _ h3 => ?_) h2
  refine star_mono (fun _ h => h) (fun _ h4 => ?_) h3
  exact stars_mk (As := [pt z.b (blk [St z.base, I z.n, .map (some z.bm)] F), amap z.bm srF srG z.m, big (srH T) z.m]) (M := [R]) h4
theorem cf_out0 {h : Hp} (hh : stars [pt c.b (blk [.map (some c.bm), c.v, c.w] C), amap c.bm acF acG c.m, big (ndH S) c.m, pt z.b (blk [St z.base, I z.n, .map (some z.bm)] F), amap z.bm srF srG z.m, big (srH T) z.m, R] h) : stars [chH C S (some c), fxH F T (some z), R] h := by
  have h1 : stars [pt c.b (blk [.map (some c.bm), c.v, c.w] C), amap c.bm acF acG c.m, big (ndH S) c.m, fxH F T (some z), R] h := by
    refine star_mono (fun _ h => h) (fun _ h2 => ?_) hh
    refine star_mono (fun _ h => h) (fun _ h3 => ?_) h2
    refine star_mono (fun _ h => h) (fun _ h4 => ?_) h3
    exact stars_un (As := [pt z.b (blk [St z.base, I z.n, .map (some z.bm)] F), amap z.bm srF srG z.m, big (srH T) z.m]) (M := [R]) h4
  exact stars_un (As := [pt c.b (blk [.map (some c.bm), c.v, c.w] C), amap c.bm acF acG c.m, big (ndH S) c.m]) (M := [fxH F T (some z), R]) h1
theorem cf_out : Imp [A, B, pt c.b (blk [.map (some c.bm), c.v, c.w] C), amap c.bm acF acG c.m, big (ndH S) c.m, pt z.b (blk [St z.base, I z.n, .map (some z.bm)] F), amap z.bm srF srG z.m, big (srH T) z.m, R] [A, B, chH C S (some c), fxH F T (some z), R] := fun β w hs => Has.mono hs fun _ h =>
  star_mono (fun _ h => h) (fun _ h2 => star_mono (fun _ h => h) (fun _ h3 => cf_out0 h3) h2) h
end
end Go.SL

namespace Go.SL
open Go
structure Rk where
  xa : Option Addr
  xc : Nat
  xs : List Ac
  base : ByteArray
  ra : Option Addr
  rc : Nat
  rs : List Rt
  ca : Option Addr
  cc : Nat
  cs : List Cl
  ent : ByteArray
  day : Int
  book : Int
  mode : Int
  gain : ByteArray
  loss : ByteArray
  who : ByteArray
def Rk.c (x : Rk) : List Value := [.slice x.xa x.xs.length x.xc, St x.base, .slice x.ra x.rs.length x.rc, .slice x.ca x.cs.length x.cc, St x.ent, I x.day, I x.book, I x.mode, St x.gain, St x.loss, St x.who]
structure Rt.sz (r : Rt) : Prop where
  cur : (r.cur.size : Int) ≤ 9223372036854775807
  n : i64 r.n
  d : i64 r.d
  kind : i64 r.kind
  day : i64 r.day
structure Cl.sz (x : Cl) : Prop where
  q : ClQ x
  ent : szS x.k.ent
  acc : szS x.k.acc
  partner : szS x.k.partner
structure Rk.rd (R : HP) (x : Rk) : Prop where
  xr : RdS R x.xa (x.xs.flatMap Ac.c)
  xe : ∀ a ∈ x.xs, a.rd R ∧ a.sz
  xl : x.xs.length ≤ 140737488355328
  rr : RdS R x.ra (x.rs.flatMap Rt.c)
  re : ∀ r ∈ x.rs, r.sz
  rl : x.rs.length ≤ 140737488355328
  cr : RdS R x.ca (x.cs.flatMap Cl.c)
  ce : ∀ c ∈ x.cs, c.sz
  cl : x.cs.length ≤ 140737488355328
  id : i64 x.day
  ib : i64 x.book
  im : i64 x.mode
  zs : szS x.base ∧ szS x.ent ∧ szS x.gain ∧ szS x.loss ∧ szS x.who
structure Rk.few (x : Rk) : Prop where
  xs : x.xs.length ≤ 80
  rs : x.rs.length ≤ 60
  cs : x.cs.length ≤ 60
def Rk.p (x : Rk) : Rv := ⟨x.xs, x.base, x.rs, x.day, x.mode, x.gain, x.loss⟩
def Rk.ok (x : Rk) : Bool := chartB x.xs && fxB x.base x.rs
def Rk.run (x : Rk) : En × Int := if x.ok = true then x.p.entry x.cs x.ent x.who x.book else (en0, 1)
def Rk.lns (x : Rk) : List Ln × Int := if x.ok = true then x.p.lines x.cs else ([], 1)
theorem ok_some {x : Rk} {o : Option Chv} {u : Option Fxv} (ho : o.isSome = chartB x.xs) (hu : u.isSome = fxB x.base x.rs) : (o.isSome = true ∧ u.isSome = true) ↔ x.ok = true := by unfold Rk.ok; rw [ho, hu, Bool.and_eq_true]
theorem run_of {x : Rk} {o : Option Chv} {u : Option Fxv} (ho : o.isSome = chartB x.xs) (hu : u.isSome = fxB x.base x.rs) : reX o u (⟨x.xs, x.base, x.rs, x.day, x.mode, x.gain, x.loss⟩ : Rv) x.cs x.ent x.who x.book = x.run := by
  unfold Rk.run
  by_cases h : x.ok = true
  · rw [if_pos h, reX_yes ((ok_some ho hu).2 h)]; rfl
  · rw [if_neg h, reX_no (fun h2 => h ((ok_some ho hu).1 h2))]
theorem entry_err {p : Rv} {l : List Cl} {ent who : ByteArray} {book : Int} (h : ¬ (p.entry l ent who book).2 = 0) : (p.entry l ent who book).1 = en0 := by
  unfold Rv.entry at h ⊢
  repeat' split
  all_goals first | rfl | (exfalso; apply h; simp_all)
structure EnOk (p : Rv) (l : List Cl) (ent who : ByteArray) (book : Int) (e : En) : Prop where
  sh : shB l = true
  go : (p.go (ofE ent l)).2 = 0
  mg : (mergeL (p.go (ofE ent l)).1).2 = 0
  ls : e.lines = (mergeL (p.go (ofE ent l)).1).1
  ne : e.lines ≠ []
  eq : e = enR ent who book p.day (mergeL (p.go (ofE ent l)).1).1
  chk : (chkN e).2 = 0
theorem entry_ok {p : Rv} {l : List Cl} {ent who : ByteArray} {book : Int} (h : (p.entry l ent who book).2 = 0) : EnOk p l ent who book (p.entry l ent who book).1 := by
  by_cases hs : shB l = false
  · rw [rve_sh hs] at h; cases h
  have hs2 : shB l = true := by simpa using hs
  by_cases hg : (p.go (ofE ent l)).2 = 0
  · by_cases hm : (mergeL (p.go (ofE ent l)).1).2 = 0
    · by_cases hn : (mergeL (p.go (ofE ent l)).1).1 = []
      · unfold Rv.entry at h; rw [if_neg hs, if_pos hg, if_pos hm, if_pos hn] at h; cases h
      · by_cases hc : (chkN (enR ent who book p.day (mergeL (p.go (ofE ent l)).1).1)).2 = 0
        · have e : p.entry l ent who book = (enR ent who book p.day (mergeL (p.go (ofE ent l)).1).1, 0) := by unfold Rv.entry; rw [if_neg hs, if_pos hg, if_pos hm, if_neg hn, if_pos hc]
          rw [e]; exact ⟨hs2, hg, hm, rfl, hn, rfl, hc⟩
        · have e : p.entry l ent who book = (en0, (chkN (enR ent who book p.day (mergeL (p.go (ofE ent l)).1).1)).2) := by unfold Rv.entry; rw [if_neg hs, if_pos hg, if_pos hm, if_neg hn, if_neg hc]
          rw [e] at h; exact absurd h hc
    · unfold Rv.entry at h; rw [if_neg hs, if_pos hg, if_neg hm] at h; exact absurd h hm
  · rw [rve_go hs2 hg] at h; exact absurd h hg
theorem rk_err {x : Rk} (h : ¬ x.run.2 = 0) : x.run.1 = en0 := by
  unfold Rk.run at h ⊢
  split
  · rename_i hk; rw [if_pos hk] at h; exact entry_err h
  · rfl
theorem rk_ok {x : Rk} (h : x.run.2 = 0) : x.ok = true ∧ EnOk x.p x.cs x.ent x.who x.book x.run.1 := by
  unfold Rk.run at h ⊢
  by_cases hk : x.ok = true
  · rw [if_pos hk] at h ⊢; exact ⟨hk, entry_ok h⟩
  · rw [if_neg hk] at h; cases h
theorem lns_for {p : Rv} {x : Cl} {ts : List Tg} {d : Int} (hc : ¬ x.k.cur = p.base) : ∀ y ∈ p.lns x ts d, y.amt = 0 ∧ ¬ y.cur = p.base := fun y hy => by
  unfold Rv.lns at hy
  split at hy
  · cases hy
  · simp only [List.mem_cons, List.not_mem_nil, or_false] at hy
    rcases hy with rfl | rfl <;> exact ⟨rfl, hc⟩
theorem one_for {p : Rv} {x : Cl} : ∀ y ∈ (p.one x).1, y.amt = 0 ∧ ¬ y.cur = p.base := by
  unfold Rv.one
  split
  · intro y h; cases h
  · split
    · intro y h; cases h
    · split
      · intro y h; cases h
      · rename_i hb
        split
        · exact lns_for fun h => hb (.inr h)
        · intro y h; cases h
theorem go_for {p : Rv} : ∀ {l : List Cl}, ∀ y ∈ (p.go l).1, y.amt = 0 ∧ ¬ y.cur = p.base
  | [] => fun y h => by cases h
  | x :: t => fun y hy => by
    simp only [Rv.go] at hy
    split at hy
    · split at hy
      · rcases List.mem_append.1 hy with hy | hy
        · exact one_for y hy
        · exact go_for y hy
      · cases hy
    · cases hy
theorem sum_zero : ∀ {l : List Int}, (∀ n ∈ l, n = 0) → l.sum = 0
  | [], _ => rfl
  | n :: l, h => by rw [List.sum_cons, h n (by simp), sum_zero fun m hm => h m (by simp [hm])]; rfl
theorem merge_for {p : Rv} {l : List Cl} : ∀ z ∈ (mergeL (p.go l).1).1, z.amt = 0 ∧ ¬ z.cur = p.base := fun z hz => by
  obtain ⟨y, hy, rfl, _⟩ := merge_mem z hz
  refine ⟨sum_zero fun n hn => ?_, (go_for y hy).2⟩
  obtain ⟨u, hu, rfl⟩ := List.mem_map.1 hn
  exact (go_for u (List.mem_filter.1 hu).1).1
structure EnY (x : Rk) (y : En) : Prop where
  ok : x.ok = true
  o : EnOk x.p x.cs x.ent x.who x.book x.run.1
  len : 1 ≤ y.lines.length ∧ y.lines.length ≤ 100
  amt : ∀ z ∈ y.lines, z.amt = 0 ∧ ¬ z.cur = x.base
  bal : balB y.lines = true
  line : ∀ z ∈ y.lines, lineE z = 0
  ls : y.lines.map Ln.e = x.run.1.lines
theorem run_y {x : Rk} {y : En} (h : y.e = x.run.1) (h0 : x.run.2 = 0) : EnY x y := by
  obtain ⟨hk, ho⟩ := rk_ok h0
  have hl : y.lines.map Ln.e = x.run.1.lines := congrArg En.lines h
  have hb := chk_bal ho.chk
  have hlen : y.lines.length = x.run.1.lines.length := by rw [← hl, List.length_map]
  have hh := head_len hb.1
  refine ⟨hk, ho, ⟨?_, by omega⟩, fun z hz => ?_, ?_, fun z hz => ?_, hl⟩
  · have h1 := ho.ne
    cases hq : x.run.1.lines with
    | nil => exact absurd hq h1
    | cons a b => rw [hlen, hq]; simp
  · have h1 : z.e ∈ x.run.1.lines := by rw [← hl]; exact List.mem_map_of_mem hz
    rw [ho.ls] at h1
    exact merge_for z.e h1
  · rw [← balB_e, hl]; exact hb.2
  · have h1 : z.e ∈ x.run.1.lines := by rw [← hl]; exact List.mem_map_of_mem hz
    have := chk_lines ho.chk z.e h1
    rw [lineE_e] at this; exact this
theorem run_n {x : Rk} {y : En} (h : y.e = x.run.1) (h0 : ¬ x.run.2 = 0) : y.lines = [] := by
  rw [rk_err h0] at h
  have := congrArg En.lines h
  exact List.map_eq_nil_iff.1 this
abbrev s12 : ByteArray := ⟨#[49, 50]⟩
abbrev s13 : ByteArray := ⟨#[49, 51]⟩
abbrev s41 : ByteArray := ⟨#[52, 49]⟩
abbrev s52 : ByteArray := ⟨#[53, 50]⟩
abbrev sUSD : ByteArray := ⟨#[85, 83, 68]⟩
abbrev xsK : List Ac := [⟨s12, bs0, 1, true, bs0, true, false, none, 0, []⟩, ⟨s13, bs0, 1, true, bs0, false, false, none, 0, []⟩, ⟨s41, bs0, 4, true, bs0, false, false, none, 0, []⟩]
abbrev csK : List Cl := [⟨⟨sa, s12, sEUR, bs0, bs0⟩, 7, 7⟩, ⟨⟨sa, s12, sUSD, bs0, bs0⟩, 100, 85⟩, ⟨⟨sa, s13, sUSD, bs0, bs0⟩, 10, 5⟩]
abbrev rsK : List Rt := [⟨sUSD, 1, 1, 9, 10⟩]
abbrev exK (b1 b2 b3 : Nat) : Rk := ⟨bpt b1, 3, xsK, sEUR, bpt b2, 1, rsK, bpt b3, 3, csK, sa, 9, 10, 3, s41, s52, su⟩
abbrev lnK : List Ln := [⟨s12, sUSD, 0, 5, bs0, bs0, none, 0, []⟩, ⟨s41, sUSD, 0, -5, bs0, bs0, none, 0, []⟩]
theorem liv_run (b1 b2 b3 : Nat) : (exK b1 b2 b3).run = (⟨0, sa, 10, 9, 6, bs0, su, 0, none, 0, lnK⟩, 0) := by kernel_rfl
theorem livk_lines {y : En} {b1 b2 b3 : Nat} (h : y.e = (exK b1 b2 b3).run.1) : y.value = 9 ∧ y.kind = 6 ∧ y.book = 10 ∧ y.lines.map Ln.e = lnK.map Ln.e := by
  rw [liv_run] at h
  exact ⟨congrArg En.value h, congrArg En.kind h, congrArg En.book h, congrArg En.lines h⟩
theorem livk_sz {ls : List Ln} (h : ls.map Ln.e = lnK.map Ln.e) : ls.length = 2 ∧ ∀ z ∈ ls, z.tags = [] := by
  have hl := congrArg List.length h
  simp only [List.length_map] at hl
  refine ⟨hl, fun z hz => ?_⟩
  have h1 : z.e ∈ lnK.map Ln.e := h ▸ List.mem_map_of_mem hz
  simp only [List.map_cons, List.map_nil, List.mem_cons, List.not_mem_nil, or_false] at h1
  rcases h1 with h1 | h1 <;> exact congrArg (fun u : Ln => u.tags) h1
theorem exk_few {b1 b2 b3 : Nat} : (exK b1 b2 b3).few := ⟨(show xsK.length ≤ 80 by decide), (show rsK.length ≤ 60 by decide), (show csK.length ≤ 60 by decide)⟩
theorem lnk_rds {Q : HP} : ∀ z ∈ lnK, RdS Q z.ta (z.tags.flatMap Tg.c) := fun z hz => by
  simp only [List.mem_cons, List.not_mem_nil, or_false] at hz
  rcases hz with rfl | rfl <;> exact RdS.nil
section
variable {T U V : TypeId} {b1 b2 b3 : Nat} {R : HP}
abbrev exR (T U V : TypeId) (b1 b2 b3 : Nat) (R : HP) : HP := stars [pt b1 (blk (xsK.flatMap Ac.c) T), pt b2 (blk (rsK.flatMap Rt.c) U), pt b3 (blk (csK.flatMap Cl.c) V), R]
theorem exk_0 (h : Rd R ⟨0, 0, none⟩ lensC) : Rd (exR T U V b1 b2 b3 R) ⟨0, 0, none⟩ lensC := (RdS.inr (RdS.inr (RdS.inr (RdS.inl (Rd.rds h))))).rd (by simp [lensC, lensL])
theorem exk_1 {m0 : Int} (h : Rd R ⟨1, 0, none⟩ [I m0]) : Rd (exR T U V b1 b2 b3 R) ⟨1, 0, none⟩ [I m0] := (RdS.inr (RdS.inr (RdS.inr (RdS.inl (Rd.rds h))))).rd (by simp)
theorem exk_rd : (exK b1 b2 b3).rd (exR T U V b1 b2 b3 R) := by
  refine ⟨RdS.inl (Rd.rds Rd.whole), fun a ha => ?_, (show xsK.length ≤ 140737488355328 by decide), RdS.inr (RdS.inl (Rd.rds Rd.whole)), fun r hr => ?_, (show rsK.length ≤ 140737488355328 by decide), RdS.inr (RdS.inr (RdS.inl (Rd.rds Rd.whole))), fun c hc => ?_, (show csK.length ≤ 140737488355328 by decide), (show i64 9 by decide), (show i64 10 by decide), (show i64 3 by decide), (show szS sEUR ∧ szS sa ∧ szS s41 ∧ szS s52 ∧ szS su by decide)⟩
  · simp only [List.mem_cons, List.not_mem_nil, or_false] at ha
    rcases ha with rfl | rfl | rfl <;> exact ⟨⟨RdS.nil, by decide, by decide⟩, ⟨by decide, by decide, by decide, fun n hn => by cases hn⟩⟩
  · simp only [List.mem_cons, List.not_mem_nil, or_false] at hr
    rcases hr with rfl
    exact ⟨by decide, by decide, by decide, by decide, by decide⟩
  · simp only [List.mem_cons, List.not_mem_nil, or_false] at hc
    rcases hc with rfl | rfl | rfl <;> exact ⟨⟨by decide, by decide, by decide, by decide⟩, by decide, by decide, by decide⟩
end
end Go.SL
