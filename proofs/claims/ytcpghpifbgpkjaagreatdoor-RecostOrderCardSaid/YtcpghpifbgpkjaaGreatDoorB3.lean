/- Laws of the walks and of the models, part 3. Merged by program out of: Dx Few RecO. -/
import Derived.Test.YtcpghpifbgpkjaaGreatDoorB2
import Derived.KernelRfl
set_option linter.unusedVariables false
set_option linter.unusedSimpArgs false
set_option maxRecDepth 20000
set_option maxHeartbeats 4000000
namespace Go.SL
open Go
/-- What is told of a condition. -/
class BP (b : Bool) (p q : outParam Prop) : Prop where
  t : b = true → p
  f : b = false → q
instance (priority := high) BP.dec {p : Prop} [Decidable p] : BP (decide p) p (¬ p) := ⟨of_decide_eq_true, of_decide_eq_false⟩
instance (priority := low) BP.any {b : Bool} : BP b (b = true) (b = false) := ⟨id, id⟩
/-- 'RunD' with the operations that are to be taken. -/
structure Dts (P : Program) (β : Base) (n : Nat) (ops : Array Oper) (fuel : Nat) (listed : Array Bool) (pend : Pend) (is : List Nat) (E : Env) (L : List HP) (K : Env → List HP → Prop) : Prop where
  of : RunD P β n ops fuel listed pend E L K
section
variable {P : Program} {β : Base} {n i : Nat} {ops : Array Oper} {fuel : Nat} {listed : Array Bool} {pend : Pend} {is : List Nat} {E : Env} {L M : List HP} {H : Env → List HP → Prop} {v : Value}
theorem DetJ.pickXT {c x y : Operand} {u v : Value} {d : Option Tmp} {ty : TypeId} {pos : String} {af : Array Edge} {g : Option (Nat × Bool)} (hc : E.ev c = some u) (hu : u = .bool true) (hx : E.ev x = some v) : DetJ P β E L ⟨d, .pick c x y, ty, pos, af, g⟩ v := DetJ.pickT (hu ▸ hc) hx
theorem DetJ.pickXF {c x y : Operand} {u v : Value} {d : Option Tmp} {ty : TypeId} {pos : String} {af : Array Edge} {g : Option (Nat × Bool)} (hc : E.ev c = some u) (hu : u = .bool false) (hy : E.ev y = some v) : DetJ P β E L ⟨d, .pick c x y, ty, pos, af, g⟩ v := DetJ.pickF (hu ▸ hc) hy
theorem DetJ.notXT {x : Operand} {u : Value} {t : TypeId} {d : Option Tmp} {ty : TypeId} {pos : String} {af : Array Edge} {g : Option (Nat × Bool)} (hx : E.ev x = some u) (hu : u = .bool true) : DetJ P β E L ⟨d, .unOp .not t x, ty, pos, af, g⟩ (.bool false) := DetJ.not (b := true) (hu ▸ hx)
theorem DetJ.notXF {x : Operand} {u : Value} {t : TypeId} {d : Option Tmp} {ty : TypeId} {pos : String} {af : Array Edge} {g : Option (Nat × Bool)} (hx : E.ev x = some u) (hu : u = .bool false) : DetJ P β E L ⟨d, .unOp .not t x, ty, pos, af, g⟩ (.bool true) := DetJ.not (b := false) (hu ▸ hx)
theorem Dts.done (h : RunD P β n ops fuel listed pend E L H) : Dts P β n ops fuel listed pend [] E L H := ⟨h⟩
theorem Dts.det {o : Oper} (hi : ops[i]? = some o) (hg : o.guard = none) (hd : dstOk n o.dst = true) (hc : (Region.noSelect ops && Region.free .any ops listed i && (Region.ready .any ops listed).contains i) = true) (h : ∃ v, DetJ P β E [] o v ∧ Dts P β n ops fuel (listed.setIfInBounds i true) ((i, []) :: pend) is (E.put o.dst v) L H) :
    Dts P β n ops (fuel + 1) listed pend (i :: is) E L H := ⟨let ⟨_, hy, h⟩ := h; RunD.take i hi hg hd hc hy .nil h.of⟩
theorem Dts.yes {o : Oper} {jg : Nat} {gb : Bool} {gd : Tmp} {u : Value} (hi : ops[i]? = some o) (hg : o.guard = some (jg, gb)) (hj : (ops[jg]?).bind (·.dst) = some gd) (hu0 : E.get gd = some u) (hu : u = .bool gb) (hd : dstOk n o.dst = true) (hc : (Region.noSelect ops && Region.free .any ops listed i && (Region.ready .any ops listed).contains i) = true) (h : ∃ v, DetJ P β E [] o v ∧ Dts P β n ops fuel (listed.setIfInBounds i true) ((i, []) :: pend) is (E.put o.dst v) L H) :
    Dts P β n ops (fuel + 1) listed pend (i :: is) E L H := ⟨let ⟨_, hy, h⟩ := h; RunD.takeG i hi hg hj (by rw [hu0, hu]) hd hc hy .nil h.of⟩
theorem Dts.noT {o : Oper} {jg : Nat} {gd : Tmp} {u : Value} (hi : ops[i]? = some o) (hg : o.guard = some (jg, true)) (hj : (ops[jg]?).bind (·.dst) = some gd) (hu0 : E.get gd = some u) (hu : u = .bool false) (hd : dstOk n o.dst = true) (hc : (Region.noSelect ops && Region.free .any ops listed i && (Region.ready .any ops listed).contains i) = true)
    (h : Dts P β n ops fuel (listed.setIfInBounds i true) ((i, []) :: pend) is (E.put o.dst undef) L H) : Dts P β n ops (fuel + 1) listed pend (i :: is) E L H := ⟨RunD.takeN i hi hg hj (by rw [hu0, hu]; rfl) hd hc h.of⟩
theorem Dts.noF {o : Oper} {jg : Nat} {gd : Tmp} {u : Value} (hi : ops[i]? = some o) (hg : o.guard = some (jg, false)) (hj : (ops[jg]?).bind (·.dst) = some gd) (hu0 : E.get gd = some u) (hu : u = .bool true) (hd : dstOk n o.dst = true) (hc : (Region.noSelect ops && Region.free .any ops listed i && (Region.ready .any ops listed).contains i) = true)
    (h : Dts P β n ops fuel (listed.setIfInBounds i true) ((i, []) :: pend) is (E.put o.dst undef) L H) : Dts P β n ops (fuel + 1) listed pend (i :: is) E L H := ⟨RunD.takeN i hi hg hj (by rw [hu0, hu]; rfl) hd hc h.of⟩
theorem Dts.U {o : Oper} {jg : Nat} {b : Bool} {gd : Tmp} {u : Value} (hi : ops[i]? = some o) (hg : o.guard = some (jg, b)) (hj : (ops[jg]?).bind (·.dst) = some gd) (hu0 : E.get gd = some u) (hu : u = Go.undef) (hd : dstOk n o.dst = true) (hc : (Region.noSelect ops && Region.free .any ops listed i && (Region.ready .any ops listed).contains i) = true)
    (h : Dts P β n ops fuel (listed.setIfInBounds i true) ((i, []) :: pend) is (E.put o.dst undef) L H) : Dts P β n ops (fuel + 1) listed pend (i :: is) E L H := ⟨RunD.takeU i hi hg hj (by rw [hu0, hu]) hd h.of hc⟩
theorem Dts.F {b off : Nat} {cs : List Value} {bt : TypeId} {m : Nat} {x : Operand} {t : TypeId} {d : Option Tmp} {ty : TypeId} {pos : String} {af : Array Edge} (hi : ops[i]? = some ⟨d, .load t x, ty, pos, af, none⟩) (hd : dstOk n d = true) (hc : (Region.noSelect ops && Region.free .any ops listed i && (Region.ready .any ops listed).contains i) = true) (T : TI P t false m) (hx : E.ev x = some (.pointer (some ⟨b, off, none⟩))) (p : Pick L (pt b (blk cs bt)) M) (hv : cs[off]? = some v)
    (h : Dts P β n ops fuel (listed.setIfInBounds i true) ((i, [pt b (blk cs bt)]) :: pend) is (E.put d v) L H) : Dts P β n ops (fuel + 1) listed pend (i :: is) E L H := ⟨RunD.takeF i hi hd hc T hx p hv h.of⟩
theorem Dts.O {α : Type} {enc : α → List Value} {e : TypeId} {ie k b j nn cap : Nat} {xs : List α} {u : α} {m : Nat} {x : Operand} {t : TypeId} {d : Option Tmp} {ty : TypeId} {pos : String} {af : Array Edge} (hi : ops[i]? = some ⟨d, .load t x, ty, pos, af, none⟩) (hd : dstOk n d = true) (hc : (Region.noSelect ops && Region.free .any ops listed i && (Region.ready .any ops listed).contains i) = true) (T : TI P t false m) (hx : E.ev x = some (.pointer (some ⟨b, 0 + ie * k + j, none⟩))) (p : Pick L (own e k (some ⟨b, 0, none⟩) nn cap (xs.flatMap enc)) M) (hu : xs[ie]? = some u) (hv : (enc u)[j]? = some v) (hk : ∀ x, (enc x).length = k)
    (h : Dts P β n ops fuel (listed.setIfInBounds i true) ((i, [own e k (some ⟨b, 0, none⟩) nn cap (xs.flatMap enc)]) :: pend) is (E.put d v) L H) : Dts P β n ops (fuel + 1) listed pend (i :: is) E L H := ⟨RunD.takeO i hi hd hc T hx p hu hv hk h.of⟩
theorem Dts.W {b : Nat} {cs : List Value} {bt : TypeId} {m : Nat} {x : Operand} {t : TypeId} {d : Option Tmp} {ty : TypeId} {pos : String} {af : Array Edge} (hi : ops[i]? = some ⟨d, .load t x, ty, pos, af, none⟩) (hd : dstOk n d = true) (hc : (Region.noSelect ops && Region.free .any ops listed i && (Region.ready .any ops listed).contains i) = true) (T : TI P t true m) (hx : E.ev x = some (.pointer (some ⟨b, 0, none⟩))) (p : Pick L (pt b (blk cs bt)) M) (hn : cs.length = m)
    (h : Dts P β n ops fuel (listed.setIfInBounds i true) ((i, [pt b (blk cs bt)]) :: pend) is (E.put d (.agg ⟨cs⟩)) L H) : Dts P β n ops (fuel + 1) listed pend (i :: is) E L H := ⟨RunD.takeW i hi hd hc T hx p hn h.of⟩
theorem Dts.PP {b off : Nat} {cs : List Value} {bt : TypeId} {m : Nat} {x : Operand} {t : TypeId} {d : Option Tmp} {ty : TypeId} {pos : String} {af : Array Edge} (hi : ops[i]? = some ⟨d, .load t x, ty, pos, af, none⟩) (hd : dstOk n d = true) (hc : (Region.noSelect ops && Region.free .any ops listed i && (Region.ready .any ops listed).contains i) = true) (T : TI P t true m) (hx : E.ev x = some (.pointer (some ⟨b, off, none⟩))) (p : Pick L (pt b (blk cs bt)) M) (hn : off + m ≤ cs.length)
    (h : Dts P β n ops fuel (listed.setIfInBounds i true) ((i, [pt b (blk cs bt)]) :: pend) is (E.put d (.agg ⟨(cs.drop off).take m⟩)) L H) : Dts P β n ops (fuel + 1) listed pend (i :: is) E L H := ⟨RunD.takeP i hi hd hc T hx p hn h.of⟩
theorem Dts.EE {α : Type} {enc : α → List Value} {e : TypeId} {k b nn cap ie : Nat} {xs : List α} {u : α} {m : Nat} {x : Operand} {t : TypeId} {d : Option Tmp} {ty : TypeId} {pos : String} {af : Array Edge} (hi : ops[i]? = some ⟨d, .load t x, ty, pos, af, none⟩) (hd : dstOk n d = true) (hc : (Region.noSelect ops && Region.free .any ops listed i && (Region.ready .any ops listed).contains i) = true) (T : TI P t true m) (hx : E.ev x = some (.pointer (some ⟨b, 0 + ie * k, none⟩))) (p : Pick L (own e k (some ⟨b, 0, none⟩) nn cap (xs.flatMap enc)) M) (hu : xs[ie]? = some u) (hk : ∀ x, (enc x).length = k) (hm : m = k) (h0 : 0 < k)
    (h : Dts P β n ops fuel (listed.setIfInBounds i true) ((i, [own e k (some ⟨b, 0, none⟩) nn cap (xs.flatMap enc)]) :: pend) is (E.put d (.agg ⟨enc u⟩)) L H) : Dts P β n ops (fuel + 1) listed pend (i :: is) E L H := ⟨RunD.takeE i hi hd hc T hx p hu hk hm h0 h.of⟩
theorem Dts.B {zs cs : List Value} {places : List (Nat × Nat)} {xs : List (Nat × Operand)} {ps : List (Nat × Value)} {t : TypeId} {d : Option Tmp} {ty : TypeId} {pos : String} {af : Array Edge} (hi : ops[i]? = some ⟨d, .build t ⟨xs⟩, ty, pos, af, none⟩) (hd : dstOk n d = true) (hc : (Region.noSelect ops && Region.free .any ops listed i && (Region.ready .any ops listed).contains i) = true) (B : BI P t zs places) (hx : E.evp xs = some ps) (hb : bldL places zs ps = some cs)
    (h : Dts P β n ops fuel (listed.setIfInBounds i true) ((i, []) :: pend) is (E.put d (.agg ⟨cs⟩)) L H) : Dts P β n ops (fuel + 1) listed pend (i :: is) E L H := ⟨RunD.takeB i hi hd hc B hx (by rw [hb]; rfl) fun cs' h' => by cases hb.symm.trans h'; exact h.of⟩
theorem Dts.GF {b off : Nat} {cs : List Value} {bt : TypeId} {jg : Nat} {gb : Bool} {gd : Tmp} {u : Value} {m : Nat} {x : Operand} {t : TypeId} {d : Option Tmp} {ty : TypeId} {pos : String} {af : Array Edge} (hi : ops[i]? = some ⟨d, .load t x, ty, pos, af, some (jg, gb)⟩) (hj : (ops[jg]?).bind (·.dst) = some gd) (hu0 : E.get gd = some u) (hu : u = .bool gb) (hd : dstOk n d = true) (hc : (Region.noSelect ops && Region.free .any ops listed i && (Region.ready .any ops listed).contains i) = true) (T : TI P t false m) (hx : E.ev x = some (.pointer (some ⟨b, off, none⟩))) (p : Pick L (pt b (blk cs bt)) M) (hv : cs[off]? = some v)
    (h : Dts P β n ops fuel (listed.setIfInBounds i true) ((i, [pt b (blk cs bt)]) :: pend) is (E.put d v) L H) : Dts P β n ops (fuel + 1) listed pend (i :: is) E L H := ⟨RunD.takeGF i hi hj (by rw [hu0, hu]) hd hc T hx p hv h.of⟩
theorem Dts.GO {α : Type} {enc : α → List Value} {e : TypeId} {ie k b j nn cap : Nat} {xs : List α} {w : α} {jg : Nat} {gb : Bool} {gd : Tmp} {u : Value} {m : Nat} {x : Operand} {t : TypeId} {d : Option Tmp} {ty : TypeId} {pos : String} {af : Array Edge} (hi : ops[i]? = some ⟨d, .load t x, ty, pos, af, some (jg, gb)⟩) (hj : (ops[jg]?).bind (·.dst) = some gd) (hu0 : E.get gd = some u) (hu : u = .bool gb) (hd : dstOk n d = true) (hc : (Region.noSelect ops && Region.free .any ops listed i && (Region.ready .any ops listed).contains i) = true) (T : TI P t false m) (hx : E.ev x = some (.pointer (some ⟨b, 0 + ie * k + j, none⟩))) (p : Pick L (own e k (some ⟨b, 0, none⟩) nn cap (xs.flatMap enc)) M) (hw : xs[ie]? = some w) (hv : (enc w)[j]? = some v) (hk : ∀ x, (enc x).length = k)
    (h : Dts P β n ops fuel (listed.setIfInBounds i true) ((i, [own e k (some ⟨b, 0, none⟩) nn cap (xs.flatMap enc)]) :: pend) is (E.put d v) L H) : Dts P β n ops (fuel + 1) listed pend (i :: is) E L H := ⟨RunD.takeGO i hi hj (by rw [hu0, hu]) hd hc T hx p hw hv hk h.of⟩
theorem Dts.GW {b : Nat} {cs : List Value} {bt : TypeId} {jg : Nat} {gb : Bool} {gd : Tmp} {u : Value} {m : Nat} {x : Operand} {t : TypeId} {d : Option Tmp} {ty : TypeId} {pos : String} {af : Array Edge} (hi : ops[i]? = some ⟨d, .load t x, ty, pos, af, some (jg, gb)⟩) (hj : (ops[jg]?).bind (·.dst) = some gd) (hu0 : E.get gd = some u) (hu : u = .bool gb) (hd : dstOk n d = true) (hc : (Region.noSelect ops && Region.free .any ops listed i && (Region.ready .any ops listed).contains i) = true) (T : TI P t true m) (hx : E.ev x = some (.pointer (some ⟨b, 0, none⟩))) (p : Pick L (pt b (blk cs bt)) M) (hn : cs.length = m)
    (h : Dts P β n ops fuel (listed.setIfInBounds i true) ((i, [pt b (blk cs bt)]) :: pend) is (E.put d (.agg ⟨cs⟩)) L H) : Dts P β n ops (fuel + 1) listed pend (i :: is) E L H := ⟨RunD.takeGW i hi hj (by rw [hu0, hu]) hd hc T hx p hn h.of⟩
theorem Dts.GE {α : Type} {enc : α → List Value} {e : TypeId} {k b nn cap ie : Nat} {xs : List α} {w : α} {jg : Nat} {gb : Bool} {gd : Tmp} {u : Value} {m : Nat} {x : Operand} {t : TypeId} {d : Option Tmp} {ty : TypeId} {pos : String} {af : Array Edge} (hi : ops[i]? = some ⟨d, .load t x, ty, pos, af, some (jg, gb)⟩) (hj : (ops[jg]?).bind (·.dst) = some gd) (hu0 : E.get gd = some u) (hu : u = .bool gb) (hd : dstOk n d = true) (hc : (Region.noSelect ops && Region.free .any ops listed i && (Region.ready .any ops listed).contains i) = true) (T : TI P t true m) (hx : E.ev x = some (.pointer (some ⟨b, 0 + ie * k, none⟩))) (p : Pick L (own e k (some ⟨b, 0, none⟩) nn cap (xs.flatMap enc)) M) (hw : xs[ie]? = some w) (hk : ∀ x, (enc x).length = k) (hm : m = k) (h0 : 0 < k)
    (h : Dts P β n ops fuel (listed.setIfInBounds i true) ((i, [own e k (some ⟨b, 0, none⟩) nn cap (xs.flatMap enc)]) :: pend) is (E.put d (.agg ⟨enc w⟩)) L H) : Dts P β n ops (fuel + 1) listed pend (i :: is) E L H := ⟨RunD.takeGE i hi hj (by rw [hu0, hu]) hd hc T hx p hw hk hm h0 h.of⟩
end
end Go.SL
namespace Go.SL
open Go
section
variable {P : Program} {β : Base} {n : Nat} {ops : Array Oper} {fuel : Nat} {listed : Array Bool} {pend : Pend} {E E' : Env} {L L' : List HP} {H : Env → List HP → Prop} {Q : Po}
attribute [local irreducible] OpJ RunL Run RunD DetJ pt own star Rd RdS
/-- The operations named, in this order. -/
theorem dx (is : List Nat) {G : (Env → List HP → Prop) → Prop} (h : G H) (s : ∀ H', Hold (G H') → Dts P β n ops fuel listed pend is E L H' := by intro H' hk; repeat (first | exact Dts.done hk.of | (refine Dts.det rfl rfl rfl kr ?_; (first | refine ⟨_, DetJ.move rfl, ?_⟩ | refine ⟨_, DetJ.assign rfl, ?_⟩ | refine ⟨_, DetJ.fieldAddr inferInstance rfl, ?_⟩ | refine ⟨_, DetJ.nilCheck rfl, ?_⟩ | refine ⟨_, DetJ.extract rfl rfl, ?_⟩ | refine ⟨_, DetJ.indexAddr inferInstance rfl rfl (by omega), ?_⟩ | refine ⟨_, DetJ.pickXT rfl (by with_reducible first | exact rfl | exact bx1 | exact bx2 | exact bx3 | exact bx4 | exact bx5 | exact bx6 | exact bx7 | exact bx8 | exact bx9 | exact bx10) rfl, ?_⟩ | refine ⟨_, DetJ.pickXF rfl (by with_reducible first | exact rfl | exact bx1 | exact bx2 | exact bx3 | exact bx4 | exact bx5 | exact bx6 | exact bx7 | exact bx8 | exact bx9 | exact bx10) rfl, ?_⟩ | refine ⟨_, DetJ.pick rfl rfl rfl, ?_⟩ | refine ⟨_, DetJ.len inferInstance rfl, ?_⟩ | refine ⟨_, DetJ.addI rfl rfl (by omega), ?_⟩ | refine ⟨_, DetJ.add rfl rfl, ?_⟩ | refine ⟨_, DetJ.subI rfl rfl (by omega), ?_⟩ | refine ⟨_, DetJ.sub rfl rfl, ?_⟩ | refine ⟨_, DetJ.eql rfl rfl, ?_⟩ | refine ⟨_, DetJ.neq rfl rfl, ?_⟩ | refine ⟨_, DetJ.lss rfl rfl, ?_⟩ | refine ⟨_, DetJ.gtr rfl rfl, ?_⟩ | refine ⟨_, DetJ.leq rfl rfl, ?_⟩ | refine ⟨_, DetJ.geq rfl rfl, ?_⟩ | refine ⟨_, DetJ.mul rfl rfl, ?_⟩ | refine ⟨_, DetJ.eqlS rfl rfl, ?_⟩ | refine ⟨_, DetJ.neqS rfl rfl, ?_⟩ | refine ⟨_, DetJ.lssS rfl rfl, ?_⟩ | refine ⟨_, DetJ.gtrS rfl rfl, ?_⟩ | refine ⟨_, DetJ.eqlNil PI.eq rfl, ?_⟩ | refine ⟨_, DetJ.neqNil PI.eq rfl, ?_⟩ | refine ⟨_, DetJ.eqlNilSl inferInstance rfl, ?_⟩ | refine ⟨_, DetJ.eqlA inferInstance rfl rfl rfl, ?_⟩ | refine ⟨_, DetJ.neqA inferInstance rfl rfl rfl, ?_⟩ | refine ⟨_, DetJ.eqlB UI.eq rfl rfl, ?_⟩ | refine ⟨_, DetJ.neqB UI.eq rfl rfl, ?_⟩ | refine ⟨_, DetJ.notXT rfl (by with_reducible first | exact rfl | exact bx1 | exact bx2 | exact bx3 | exact bx4 | exact bx5 | exact bx6 | exact bx7 | exact bx8 | exact bx9 | exact bx10), ?_⟩ | refine ⟨_, DetJ.notXF rfl (by with_reducible first | exact rfl | exact bx1 | exact bx2 | exact bx3 | exact bx4 | exact bx5 | exact bx6 | exact bx7 | exact bx8 | exact bx9 | exact bx10), ?_⟩ | refine ⟨_, DetJ.not rfl, ?_⟩ | refine ⟨_, DetJ.neg rfl, ?_⟩ | refine ⟨_, DetJ.lenS UI.eq rfl, ?_⟩ | refine ⟨_, DetJ.min rfl rfl, ?_⟩ | refine ⟨_, DetJ.indexAddrArr inferInstance rfl rfl (by omega), ?_⟩ | refine ⟨_, DetJ.quo rfl rfl (by omega), ?_⟩ | refine ⟨_, DetJ.rem rfl rfl (by omega), ?_⟩ | refine ⟨_, DetJ.conv SoI.eq UI.eq rfl, ?_⟩ | refine ⟨_, DetJ.fieldA inferInstance inferInstance rfl, ?_⟩ | refine ⟨_, DetJ.field1 inferInstance inferInstance rfl (by rfl), ?_⟩ | refine ⟨_, DetJ.makeFunc rfl rfl, ?_⟩)) | refine Dts.F rfl rfl kr inferInstance rfl pk (by rfl) ?_ | refine Dts.O rfl rfl kr inferInstance rfl pk (by assumption) (by rfl) (by exact fun _ => rfl) ?_ | refine Dts.W rfl rfl kr inferInstance rfl pk (by rfl) ?_ | refine Dts.PP rfl rfl kr inferInstance rfl pk (by simp) ?_ | refine Dts.EE rfl rfl kr inferInstance rfl pk (by assumption) (by exact fun _ => rfl) rfl (by decide) ?_ | refine Dts.B rfl rfl kr inferInstance rfl (by simp only [Sk.c, Mv.c, Co.c, bldL, Value.cells, bs, Nat.reduceAdd, Nat.reduceLeDiff, Nat.reduceLT]; rfl) ?_ | (refine Dts.yes rfl rfl rfl rfl (by with_reducible first | exact rfl | exact bx1 | exact bx2 | exact bx3 | exact bx4 | exact bx5 | exact bx6 | exact bx7 | exact bx8 | exact bx9 | exact bx10) rfl kr ?_; (first | refine ⟨_, DetJ.move rfl, ?_⟩ | refine ⟨_, DetJ.assign rfl, ?_⟩ | refine ⟨_, DetJ.fieldAddr inferInstance rfl, ?_⟩ | refine ⟨_, DetJ.nilCheck rfl, ?_⟩ | refine ⟨_, DetJ.extract rfl rfl, ?_⟩ | refine ⟨_, DetJ.indexAddr inferInstance rfl rfl (by omega), ?_⟩ | refine ⟨_, DetJ.pickXT rfl (by with_reducible first | exact rfl | exact bx1 | exact bx2 | exact bx3 | exact bx4 | exact bx5 | exact bx6 | exact bx7 | exact bx8 | exact bx9 | exact bx10) rfl, ?_⟩ | refine ⟨_, DetJ.pickXF rfl (by with_reducible first | exact rfl | exact bx1 | exact bx2 | exact bx3 | exact bx4 | exact bx5 | exact bx6 | exact bx7 | exact bx8 | exact bx9 | exact bx10) rfl, ?_⟩ | refine ⟨_, DetJ.pick rfl rfl rfl, ?_⟩ | refine ⟨_, DetJ.len inferInstance rfl, ?_⟩ | refine ⟨_, DetJ.addI rfl rfl (by omega), ?_⟩ | refine ⟨_, DetJ.add rfl rfl, ?_⟩ | refine ⟨_, DetJ.subI rfl rfl (by omega), ?_⟩ | refine ⟨_, DetJ.sub rfl rfl, ?_⟩ | refine ⟨_, DetJ.eql rfl rfl, ?_⟩ | refine ⟨_, DetJ.neq rfl rfl, ?_⟩ | refine ⟨_, DetJ.lss rfl rfl, ?_⟩ | refine ⟨_, DetJ.gtr rfl rfl, ?_⟩ | refine ⟨_, DetJ.leq rfl rfl, ?_⟩ | refine ⟨_, DetJ.geq rfl rfl, ?_⟩ | refine ⟨_, DetJ.mul rfl rfl, ?_⟩ | refine ⟨_, DetJ.eqlS rfl rfl, ?_⟩ | refine ⟨_, DetJ.neqS rfl rfl, ?_⟩ | refine ⟨_, DetJ.lssS rfl rfl, ?_⟩ | refine ⟨_, DetJ.gtrS rfl rfl, ?_⟩ | refine ⟨_, DetJ.eqlNil PI.eq rfl, ?_⟩ | refine ⟨_, DetJ.neqNil PI.eq rfl, ?_⟩ | refine ⟨_, DetJ.eqlNilSl inferInstance rfl, ?_⟩ | refine ⟨_, DetJ.eqlA inferInstance rfl rfl rfl, ?_⟩ | refine ⟨_, DetJ.neqA inferInstance rfl rfl rfl, ?_⟩ | refine ⟨_, DetJ.eqlB UI.eq rfl rfl, ?_⟩ | refine ⟨_, DetJ.neqB UI.eq rfl rfl, ?_⟩ | refine ⟨_, DetJ.notXT rfl (by with_reducible first | exact rfl | exact bx1 | exact bx2 | exact bx3 | exact bx4 | exact bx5 | exact bx6 | exact bx7 | exact bx8 | exact bx9 | exact bx10), ?_⟩ | refine ⟨_, DetJ.notXF rfl (by with_reducible first | exact rfl | exact bx1 | exact bx2 | exact bx3 | exact bx4 | exact bx5 | exact bx6 | exact bx7 | exact bx8 | exact bx9 | exact bx10), ?_⟩ | refine ⟨_, DetJ.not rfl, ?_⟩ | refine ⟨_, DetJ.neg rfl, ?_⟩ | refine ⟨_, DetJ.lenS UI.eq rfl, ?_⟩ | refine ⟨_, DetJ.min rfl rfl, ?_⟩ | refine ⟨_, DetJ.indexAddrArr inferInstance rfl rfl (by omega), ?_⟩ | refine ⟨_, DetJ.quo rfl rfl (by omega), ?_⟩ | refine ⟨_, DetJ.rem rfl rfl (by omega), ?_⟩ | refine ⟨_, DetJ.conv SoI.eq UI.eq rfl, ?_⟩ | refine ⟨_, DetJ.fieldA inferInstance inferInstance rfl, ?_⟩ | refine ⟨_, DetJ.field1 inferInstance inferInstance rfl (by rfl), ?_⟩ | refine ⟨_, DetJ.makeFunc rfl rfl, ?_⟩)) | refine Dts.GF rfl rfl rfl (by with_reducible first | exact rfl | exact bx1 | exact bx2 | exact bx3 | exact bx4 | exact bx5 | exact bx6 | exact bx7 | exact bx8 | exact bx9 | exact bx10) rfl kr inferInstance rfl pk (by rfl) ?_ | refine Dts.GO rfl rfl rfl (by with_reducible first | exact rfl | exact bx1 | exact bx2 | exact bx3 | exact bx4 | exact bx5 | exact bx6 | exact bx7 | exact bx8 | exact bx9 | exact bx10) rfl kr inferInstance rfl pk (by assumption) (by rfl) (by exact fun _ => rfl) ?_ | refine Dts.GW rfl rfl rfl (by with_reducible first | exact rfl | exact bx1 | exact bx2 | exact bx3 | exact bx4 | exact bx5 | exact bx6 | exact bx7 | exact bx8 | exact bx9 | exact bx10) rfl kr inferInstance rfl pk (by rfl) ?_ | refine Dts.GE rfl rfl rfl (by with_reducible first | exact rfl | exact bx1 | exact bx2 | exact bx3 | exact bx4 | exact bx5 | exact bx6 | exact bx7 | exact bx8 | exact bx9 | exact bx10) rfl kr inferInstance rfl pk (by assumption) (by exact fun _ => rfl) rfl (by decide) ?_ | refine Dts.noT rfl rfl rfl rfl (by with_reducible first | exact rfl | exact bx1 | exact bx2 | exact bx3 | exact bx4 | exact bx5 | exact bx6 | exact bx7 | exact bx8 | exact bx9 | exact bx10) rfl kr ?_ | refine Dts.noF rfl rfl rfl rfl (by with_reducible first | exact rfl | exact bx1 | exact bx2 | exact bx3 | exact bx4 | exact bx5 | exact bx6 | exact bx7 | exact bx8 | exact bx9 | exact bx10) rfl kr ?_ | refine Dts.U rfl rfl rfl rfl (by with_reducible first | exact rfl | exact bx1 | exact bx2 | exact bx3 | exact bx4 | exact bx5 | exact bx6 | exact bx7 | exact bx8 | exact bx9 | exact bx10) rfl kr ?_)) : RunD P β n ops fuel listed pend E L H := (s H ⟨h⟩).of
/-- A branch. -/
theorem cnd {x : Operand} {b : Bool} {c1 c2 : Code} {p q : Prop} [I : BP b p q] (hx : E.ev x = some (.bool b)) (ht : p → Run P β n c1 E L Q) (hf : q → Run P β n c2 E L Q) : Run P β n (.cond x c1 c2) E L Q := Run.cond hx (fun h => ht (I.t h)) (fun h => hf (I.f h))
/-- The end of a drawn region, as what was said of it. -/
theorem dwk (h : H E' L') (hk : E.pick (E'.map (·.1)) = some E') (g : Gives L L') (hr : Region.ready .any ops listed = [] := by kernel_rfl) : RunD P β n ops fuel listed pend E L H := RunD.weak (kt hk).sub g (RunD.done hr h)
end
end Go.SL

namespace Go.SL
open Go
def lx : ByteArray := ⟨#[]⟩
def paF (v : Int) : List Pa := [⟨1, 1, lx, 10, 100, 0, 0⟩, ⟨2, 1, lx, 10, 140, 0, 0⟩, ⟨3, 2, lx, 5, v, 0, 0⟩]
def sk1 : Sk := ⟨15, 190, 0, [⟨1, lx, 5, 50⟩, ⟨2, lx, 10, 140⟩], paF 50⟩
def sk2 : Sk := ⟨15, 180, 0, [], paF 60⟩
def sk3 : Sk := ⟨15, 165, 11, [], paF 55⟩
def cs1 : List Co := [⟨1, 10, 100, 0⟩, ⟨2, 10, 140, 0⟩, ⟨3, -5, -50, 0⟩]
def cs2 : List Co := [⟨1, 10, 100, 0⟩, ⟨2, 10, 140, 0⟩, ⟨3, -5, -60, 0⟩]
def cs3 : List Co := [⟨1, 10, 110, -10⟩, ⟨2, 10, 110, 30⟩, ⟨3, -5, -55, 0⟩]
theorem run1 : runM 1 11 fewMs = .ok (sk1, cs1) := by kernel_rfl
theorem run2 : runM 2 11 fewMs = .ok (sk2, cs2) := by kernel_rfl
theorem run3 : runM 3 11 fewMs = .ok (sk3, cs3) := by kernel_rfl
theorem run4 : runM 4 11 fewMs = .error (0, 22) := by kernel_rfl
theorem run5 : runM 5 (-1) fewMs = .error (-1, 10) := by kernel_rfl
end Go.SL

namespace Go.SL
open Go
/-! movements, layers, costs and stocks without their numbers -/
def eM (m : Mv) : Mv := { m with seq := 0 }
def eL (l : Ly) : Ly := { l with seq := 0 }
def eC (c : Co) : Co := { c with seq := 0 }
def eS (s : Sk) : Sk := ⟨s.qty, s.value, s.price, s.layers.map eL, []⟩
theorem one_e (m : Mv) : (eM m).one = m.one := by
  unfold Mv.one Mv.quantityOk Mv.costOk Mv.lotOk Mv.refBad; rfl
theorem issueL_e : ∀ (ls : List Ly) (q v : Int), issueL (ls.map eL) q v = ((issueL ls q v).1.map eL, (issueL ls q v).2)
  | [], _, _ => rfl
  | l :: ls, q, v => by
    simp only [List.map_cons, issueL, show (eL l).qty = l.qty from rfl, show ∀ x, takeV (eL l) x = takeV l x from fun _ => rfl, show ∀ x, takeX (eL l) x = eL (takeX l x) from fun _ => rfl]
    by_cases h : q ≤ 0
    · rw [if_pos h, if_pos h]; rfl
    · rw [if_neg h, if_neg h]
      split
      · split
        · exact issueL_e ls _ _
        · rfl
      · split
        · exact issueL_e ls _ _
        · rfl
theorem takeL_e (ls : List Ly) (i : Nat) (l : Ly) (q : Int) : takeL (ls.map eL) i (eL l) q = (takeL ls i l q).map eL := by
  unfold takeL
  simp only [show (eL l).qty = l.qty from rfl, show takeX (eL l) q = eL (takeX l q) from rfl]
  split
  · rw [List.eraseIdx_eq_take_drop_succ, List.eraseIdx_eq_take_drop_succ, List.map_append, List.map_take, List.map_drop]
  · rw [List.map_set]
theorem findI_map {α γ : Type} {f : α → γ} {p : γ → Bool} {q : α → Bool} (h : ∀ x, p (f x) = q x) (xs : List α) : findI p (xs.map f) = (findI q xs).map fun y => (y.1, f y.2) := by
  unfold findI
  rw [List.findIdx?_map, show p ∘ f = q from funext h]
  cases xs.findIdx? q with
  | none => rfl
  | some i => simp only [List.getElem?_map]; cases xs[i]? <;> rfl
theorem lotI_e (lot : ByteArray) (ls : List Ly) : lotI lot (ls.map eL) = lotI lot ls := by
  unfold lotI
  rw [findI_map (f := eL) (q := lotB lot) (fun _ => rfl)]
  cases findI (lotB lot) ls with
  | none => simp
  | some y => rfl
theorem lotF_e (lot : ByteArray) (ls : List Ly) : lotF lot (ls.map eL) = (lotF lot ls).map fun y => (y.1, eL y.2) := by
  unfold lotF
  rw [findI_map (f := eL) (q := lotB lot) (fun _ => rfl)]
  cases findI (lotB lot) ls with
  | none => rfl
  | some y =>
    obtain ⟨i, l⟩ := y
    simp only [Option.map_some, show (eL l).lot = l.lot from rfl]
    split <;> rfl
theorem addLot_e (ls : List Ly) (lot : ByteArray) (q v : Int) : addLot (ls.map eL) lot q v = (addLot ls lot q v).map eL := by
  unfold addLot
  rw [lotF_e, lotI_e]
  cases lotF lot ls with
  | none =>
    simp only [Option.map_none, insL, List.map_append, List.map_cons, List.map_take, List.map_drop]; rfl
  | some y => simp only [Option.map_some, List.map_set]; rfl
theorem over_e (t : Sk) (c : Co) : overB (eS t) (eC c) = overB t c := by
  unfold overB eS eC
  simp only [List.any_map]
  rfl
/-- What a step comes to, without numbers. -/
def eR (r : Except Int (Sk × Co)) : Except Int (Sk × Co) := match r with | .error e => .error e | .ok (t, c) => .ok (eS t, eC c)
theorem eS_eS (s : Sk) : eS (eS s) = eS s := by unfold eS; simp [eL]
theorem fStep_e {s t : Sk} {m : Mv} {c : Co} (hk : m.kind = 1 ∨ m.kind = 2) (h : fStep s m = .ok (t, c)) : eR (fStep (eS s) (eM m)) = .ok (eS t, eC c) := by
  unfold fStep at h ⊢
  split at h
  · cases h
  rename_i h1
  split at h
  · cases h
  rw [if_neg (show ¬ (eM m).one ≠ 0 from by rw [one_e]; exact h1), if_neg (by simp [eS, findI])]
  split at h
  · cases h
  rename_i t0 c0 hd
  split at h
  · cases h
  rename_i ho
  cases h
  have key : ∃ t1 c1, fDo (eS s) (eM m) ⟨(eM m).seq, 0, 0, 0⟩ = .ok (t1, c1) ∧ eS t1 = eS t0 ∧ eC c1 = eC c := by
    unfold fDo at hd ⊢
    rcases hk with hk | hk
    · rw [if_pos hk] at hd; rw [if_pos (show (eM m).kind = 1 from hk)]
      unfold fRecv at hd; cases hd
      refine ⟨_, _, rfl, ?_, rfl⟩
      simp [eS, eM, eL]
    · rw [if_neg (by omega), if_pos hk] at hd; rw [if_neg (by show ¬ m.kind = 1; omega), if_pos (show (eM m).kind = 2 from hk)]
      unfold fIssue at hd ⊢
      split at hd
      · cases hd
      rename_i hq
      cases hd
      rw [if_neg (show ¬ (eS s).qty < (eM m).qty from hq)]
      refine ⟨_, _, rfl, ?_, ?_⟩
      · show eS ⟨_, _, _, (issueL (s.layers.map eL) m.qty 0).1, _⟩ = eS ⟨_, _, _, (issueL s.layers m.qty 0).1, _⟩
        rw [issueL_e]
        unfold eS; simp [eL]
      · show eC ⟨_, _, W (0 - (issueL (s.layers.map eL) m.qty 0).2), _⟩ = _
        rw [issueL_e]; rfl
  obtain ⟨t1, c1, e1, e2, e3⟩ := key
  have hs : eS (summed t1 c1) = eS (summed t0 c) := by
    have a1 := congrArg Sk.qty e2; have a2 := congrArg Sk.value e2; have a3 := congrArg Sk.price e2; have a4 := congrArg Sk.layers e2
    have b1 := congrArg Co.qty e3; have b2 := congrArg Co.value e3
    simp only [eS, eC] at a1 a2 a3 a4 b1 b2
    simp only [summed, eS, a1, a2, a3, a4, b1, b2]
  rw [e1]
  simp only
  rw [← over_e, hs, e3, over_e, if_neg ho]
  simp only [eR, hs, e3]
theorem aStep_e {s t : Sk} {m : Mv} {c : Co} (hk : m.kind = 1 ∨ m.kind = 2) (h : aStep s m = .ok (t, c)) : eR (aStep (eS s) (eM m)) = .ok (eS t, eC c) := by
  unfold aStep at h ⊢
  split at h
  · cases h
  rename_i h1
  split at h
  · cases h
  rw [if_neg (show ¬ (eM m).one ≠ 0 from by rw [one_e]; exact h1), if_neg (by simp [eS, findI])]
  split at h
  · cases h
  rename_i t0 c0 hd
  split at h
  · cases h
  rename_i ho
  cases h
  have key : ∃ t1 c1, aDo (eS s) (eM m) = .ok (t1, c1) ∧ eS t1 = eS t0 ∧ eC c1 = eC c := by
    unfold aDo at hd ⊢
    rcases hk with hk | hk
    · rw [if_pos hk] at hd; rw [if_pos (show (eM m).kind = 1 from hk)]
      unfold aRecv at hd; cases hd
      refine ⟨_, _, rfl, ?_, rfl⟩
      simp [eS, eM, eL]
    · rw [if_neg (by omega), if_pos hk] at hd; rw [if_neg (by show ¬ m.kind = 1; omega), if_pos (show (eM m).kind = 2 from hk)]
      unfold aIssue at hd ⊢
      split at hd
      · cases hd
      rename_i hq
      cases hd
      rw [if_neg (show ¬ (eS s).qty < (eM m).qty from hq)]
      refine ⟨_, _, rfl, ?_, rfl⟩
      simp [eS, eM, eL]
  obtain ⟨t1, c1, e1, e2, e3⟩ := key
  have a1 := congrArg Sk.qty e2; have a2 := congrArg Sk.value e2; have a3 := congrArg Sk.price e2; have a4 := congrArg Sk.layers e2
  have b1 := congrArg Co.qty e3; have b2 := congrArg Co.value e3; have b3 := congrArg Co.var e3
  simp only [eS, eC] at a1 a2 a3 a4 b1 b2 b3
  have hs : eS (summed t1 c1) = eS (summed t0 c) := by simp only [summed, eS, a1, a2, a3, a4, b1, b2]
  rw [e1]
  simp only
  have ho2 : aOver (summed t1 c1) c1 = aOver (summed t0 c) c := by simp only [aOver, summed, a1, a2, b1, b2, b3]; rfl
  rw [ho2, if_neg ho]
  simp only [eR, hs, e3]
theorem sStep_e {s t : Sk} {m : Mv} {c : Co} (hk : m.kind = 1 ∨ m.kind = 2) (h : sStep s m = .ok (t, c)) : eR (sStep (eS s) (eM m)) = .ok (eS t, eC c) := by
  unfold sStep at h ⊢
  split at h
  · cases h
  rename_i h1
  split at h
  · cases h
  rw [if_neg (show ¬ (eM m).one ≠ 0 from by rw [one_e]; exact h1), if_neg (by simp [eS, findI])]
  split at h
  · cases h
  rename_i t0 c0 hd
  split at h
  · cases h
  rename_i ho
  cases h
  have key : ∃ t1 c1, sDo (eS s) (eM m) ⟨0, 0, 0, 0⟩ = .ok (t1, c1) ∧ eS t1 = eS t0 ∧ eC c1 = eC c0 := by
    unfold sDo at hd ⊢
    rcases hk with hk | hk
    · rw [if_pos hk] at hd; rw [if_pos (show (eM m).kind = 1 from hk)]
      unfold sRecv at hd ⊢
      split at hd
      · cases hd
      rename_i hp
      cases hd
      rw [if_neg (show ¬ priceE (eM m) (eS s).price ≠ 0 from hp)]
      refine ⟨_, _, rfl, ?_, rfl⟩
      simp [eS, eM, eL]
    · rw [if_neg (by omega), if_pos hk] at hd; rw [if_neg (by show ¬ m.kind = 1; omega), if_pos (show (eM m).kind = 2 from hk)]
      unfold sIssue at hd ⊢
      split at hd
      · cases hd
      rename_i hq
      split at hd
      · cases hd
      rename_i hp
      cases hd
      rw [if_neg (show ¬ (eS s).qty < (eM m).qty from hq), if_neg (show ¬ priceE (eM m) (eS s).price ≠ 0 from hp)]
      refine ⟨_, _, rfl, ?_, rfl⟩
      simp [eS, eM, eL]
  obtain ⟨t1, c1, e1, e2, e3⟩ := key
  have a1 := congrArg Sk.qty e2; have a2 := congrArg Sk.value e2; have a3 := congrArg Sk.price e2; have a4 := congrArg Sk.layers e2
  have b1 := congrArg Co.qty e3; have b2 := congrArg Co.value e3; have b3 := congrArg Co.var e3
  simp only [eS, eC] at a1 a2 a3 a4 b1 b2 b3
  have hs : eS (sSum (eS s) t1 c1) = eS (sSum s t0 c0) := by
    show eS ⟨_, _, t1.price, t1.layers, _⟩ = eS ⟨_, _, t0.price, t0.layers, _⟩
    simp only [eS, a3, a4, b1, b2]
  rw [e1]
  simp only
  have ho2 : sOver (eS s) t1 c1 = sOver s t0 c0 := by simp only [sOver, eS, b1, b2, b3]
  rw [ho2, if_neg ho]
  simp only [eR, hs, eC, b1, b2, b3]
theorem lStep_e {s t : Sk} {m : Mv} {c : Co} (hk : m.kind = 1 ∨ m.kind = 2) (h : lStep s m = .ok (t, c)) : eR (lStep (eS s) (eM m)) = .ok (eS t, eC c) := by
  unfold lStep at h ⊢
  split at h
  · cases h
  rename_i h1
  split at h
  · cases h
  rw [if_neg (show ¬ (eM m).one ≠ 0 from by rw [one_e]; exact h1), if_neg (by simp [eS, findI])]
  split at h
  · cases h
  rename_i t0 c0 hd
  split at h
  · cases h
  rename_i ho
  cases h
  have key : ∃ t1 c1, lDo (eS s) (eM m) = .ok (t1, c1) ∧ eS t1 = eS t0 ∧ eC c1 = eC c0 := by
    unfold lDo at hd ⊢
    rcases hk with hk | hk
    · rw [if_pos hk] at hd; rw [if_pos (show (eM m).kind = 1 from hk)]
      unfold lRecv at hd ⊢
      split at hd
      · cases hd
      rename_i hp
      cases hd
      rw [if_neg (show ¬ (eM m).lot = ⟨#[]⟩ from hp)]
      refine ⟨_, _, rfl, ?_, rfl⟩
      show eS ⟨_, _, _, addLot (s.layers.map eL) m.lot m.qty m.cost, _⟩ = _
      rw [addLot_e]
      unfold eS; simp [eL]
    · rw [if_neg (by omega), if_pos hk] at hd; rw [if_neg (by show ¬ m.kind = 1; omega), if_pos (show (eM m).kind = 2 from hk)]
      unfold lIssue at hd ⊢
      rw [show lotF (eM m).lot (eS s).layers = (lotF m.lot s.layers).map fun y => (y.1, eL y.2) from lotF_e _ _]
      cases hf : lotF m.lot s.layers with
      | none => rw [hf] at hd; cases hd
      | some y =>
        obtain ⟨i, l⟩ := y
        rw [hf] at hd
        simp only [Option.map_some] at hd ⊢
        split at hd
        · cases hd
        rename_i hp
        split at hd
        · cases hd
        rename_i hq
        cases hd
        rw [if_neg (show ¬ (eM m).lot = ⟨#[]⟩ from hp), if_neg (show ¬ (eL l).qty < (eM m).qty from hq)]
        refine ⟨_, _, rfl, ?_, rfl⟩
        show eS ⟨_, _, _, takeL (s.layers.map eL) i (eL l) m.qty, _⟩ = _
        rw [takeL_e]
        unfold eS; simp [eL]
  obtain ⟨t1, c1, e1, e2, e3⟩ := key
  have hs : eS (summed t1 c1) = eS (summed t0 c0) := by
    have a1 := congrArg Sk.qty e2; have a2 := congrArg Sk.value e2; have a3 := congrArg Sk.price e2; have a4 := congrArg Sk.layers e2
    have b1 := congrArg Co.qty e3; have b2 := congrArg Co.value e3
    simp only [eS, eC] at a1 a2 a3 a4 b1 b2
    simp only [summed, eS, a1, a2, a3, a4, b1, b2]
  rw [e1]
  simp only
  rw [← over_e, hs, e3, over_e, if_neg ho]
  have b1 := congrArg Co.qty e3; have b2 := congrArg Co.value e3; have b3 := congrArg Co.var e3
  simp only [eC] at b1 b2 b3
  simp only [eR, hs, eC, b1, b2, b3]
theorem stepM_e {k : Int} {s t : Sk} {m : Mv} {c : Co} (hk : m.kind = 1 ∨ m.kind = 2) (h : stepM k s m = .ok (t, c)) : eR (stepM k (eS s) (eM m)) = .ok (eS t, eC c) := by
  unfold stepM at h ⊢
  split at h
  · rw [if_pos (by assumption)]; exact fStep_e hk h
  rw [if_neg (by assumption)]
  split at h
  · rw [if_pos (by assumption)]; exact aStep_e hk h
  rw [if_neg (by assumption)]
  split at h
  · rw [if_pos (by assumption)]; exact sStep_e hk h
  rw [if_neg (by assumption)]
  split at h
  · rw [if_pos (by assumption)]; exact lStep_e hk h
  · cases h
theorem step_two {k : Int} {s s' t t' : Sk} {m m' : Mv} {c c' : Co} (hk : m.kind = 1 ∨ m.kind = 2) (hs : eS s = eS s') (hm : eM m = eM m') (h : stepM k s m = .ok (t, c)) (h' : stepM k s' m' = .ok (t', c')) : eS t = eS t' ∧ eC c = eC c' := by
  have hk' : m'.kind = 1 ∨ m'.kind = 2 := by have := congrArg Mv.kind hm; simp only [eM] at this; rw [← this]; exact hk
  have a := stepM_e hk h
  have b := stepM_e hk' h'
  rw [← hs, ← hm, a] at b
  simp only [Except.ok.injEq, Prod.mk.injEq] at b
  exact b
end Go.SL
namespace Go.SL
open Go
theorem run_two {k : Int} : ∀ {ms ms' : List Mv} {s s' t t' : Sk} {cs cs' : List Co}, (∀ m ∈ ms, m.kind = 1 ∨ m.kind = 2) → eS s = eS s' → ms.map eM = ms'.map eM → runL (stepM k) s ms = .ok (t, cs) → runL (stepM k) s' ms' = .ok (t', cs') → eS t = eS t' ∧ cs.map eC = cs'.map eC
  | [], [], s, s', t, t', cs, cs', _, hs, _, h, h' => by cases h; cases h'; exact ⟨hs, rfl⟩
  | [], m' :: ms', _, _, _, _, _, _, _, _, hm, _, _ => by simp at hm
  | m :: ms, [], _, _, _, _, _, _, _, _, hm, _, _ => by simp at hm
  | m :: ms, m' :: ms', s, s', t, t', cs, cs', hk, hs, hm, h, h' => by
    obtain ⟨s1, c1, ds, a1, a2, rfl⟩ := runL_cons h
    obtain ⟨s1', c1', ds', b1, b2, rfl⟩ := runL_cons h'
    simp only [List.map_cons, List.cons.injEq] at hm
    have h1 := step_two (hk m (List.mem_cons_self ..)) hs hm.1 a1 b1
    have h2 := run_two (fun x hx => hk x (List.mem_cons_of_mem _ hx)) h1.1 hm.2 a2 b2
    exact ⟨h2.1, by simp only [List.map_cons, h1.2, h2.2]⟩
/-- All movements were accepted. -/
theorem fill_all {k p : Int} : ∀ {l ms : List Mv}, (l.foldl (fun ms m => addMs k p ms { m with seq := (ms.length : Int) + 1 }) ms).length = ms.length + l.length → (l.foldl (fun ms m => addMs k p ms { m with seq := (ms.length : Int) + 1 }) ms).map eM = ms.map eM ++ l.map eM
  | [], ms, _ => by simp
  | m :: l, ms, h => by
    simp only [List.foldl_cons, List.length_cons] at h ⊢
    have hle : ∀ (l ms : List Mv), (l.foldl (fun ms m => addMs k p ms { m with seq := (ms.length : Int) + 1 }) ms).length ≤ ms.length + l.length := by
      intro l
      induction l with
      | nil => intro ms; simp
      | cons m l ih =>
        intro ms
        have h1 := ih (addMs k p ms { m with seq := (ms.length : Int) + 1 })
        have h2 := addMs_len (k := k) (p := p) (ms := ms) (m := { m with seq := (ms.length : Int) + 1 })
        simp only [List.foldl_cons, List.length_cons]; omega
    have h1 := hle l (addMs k p ms { m with seq := (ms.length : Int) + 1 })
    by_cases he : addErr k p ms { m with seq := (ms.length : Int) + 1 } = 0
    · rw [addMs_ok he] at h ⊢
      rw [fill_all (by rw [h, List.length_append, List.length_singleton]; omega)]
      simp [eM]
    · rw [addMs_no he] at h h1
      omega
theorem fill_eM {k p : Int} {l : List Mv} (h : (fillM k p l).length = l.length) : (fillM k p l).map eM = l.map eM := by
  have := fill_all (k := k) (p := p) (l := l) (ms := []) (by simpa [fillM] using h)
  simpa [fillM] using this
/-! every other movement -/
def pickL (l : List Mv) (a j : Nat) : List Mv := (List.range j).flatMap fun q => (l[a + 2 * q]?).toList
theorem pickL_succ {l : List Mv} {a j : Nat} {x : Mv} (h : l[a + 2 * j]? = some x) : pickL l a (j + 1) = pickL l a j ++ [x] := by
  unfold pickL; rw [List.range_succ, List.flatMap_append]; simp [h]
theorem pickL_len {l : List Mv} {a : Nat} : ∀ {j : Nat}, (pickL l a j).length ≤ j
  | 0 => by simp [pickL]
  | j + 1 => by
    have := pickL_len (l := l) (a := a) (j := j)
    unfold pickL at this ⊢
    rw [List.range_succ, List.flatMap_append, List.length_append]
    have h2 : (([j] : List Nat).flatMap fun q => (l[a + 2 * q]?).toList).length ≤ 1 := by
      simp only [List.flatMap_cons, List.flatMap_nil, List.append_nil]
      cases l[a + 2 * j]? <;> simp
    omega
theorem pickL_cons {x : Mv} {l : List Mv} {a j : Nat} : pickL (x :: l) (a + 1) j = pickL l a j := by
  unfold pickL
  congr 1; funext q
  rw [show a + 1 + 2 * q = a + 2 * q + 1 by omega, List.getElem?_cons_succ]
theorem pickL_two {x y : Mv} {l : List Mv} {j : Nat} : pickL (x :: y :: l) 0 (j + 1) = x :: pickL l 0 j := by
  unfold pickL
  rw [List.range_succ_eq_map, List.flatMap_cons, List.flatMap_map]
  simp only [Nat.mul_zero, Nat.add_zero, List.getElem?_cons_zero, Option.toList_some, List.singleton_append, List.cons.injEq, true_and]
  congr 1
theorem pickL_perm : ∀ {l : List Mv} {i j : Nat}, l.length ≤ 2 * i → l.length ≤ 1 + 2 * j → (pickL l 0 i ++ pickL l 1 j).Perm l
  | [], i, j, _, _ => by
    have : ∀ a n, pickL [] a n = [] := fun a n => by unfold pickL; simp
    rw [this, this]; exact List.Perm.refl _
  | [x], i, j, hi, hj => by
    obtain ⟨i, rfl⟩ : ∃ n, i = n + 1 := ⟨i - 1, by simp at hi; omega⟩
    have h0 : ∀ a n, pickL [] a n = [] := fun a n => by unfold pickL; simp
    have h1 : pickL [x] 0 (i + 1) = [x] := by
      unfold pickL
      rw [List.range_succ_eq_map, List.flatMap_cons, List.flatMap_map]
      simp
    rw [pickL_cons, h0, h1]; exact List.Perm.refl _
  | x :: y :: l, i, j, hi, hj => by
    obtain ⟨i, rfl⟩ : ∃ n, i = n + 1 := ⟨i - 1, by simp at hi; omega⟩
    obtain ⟨j, rfl⟩ : ∃ n, j = n + 1 := ⟨j - 1, by simp at hj; omega⟩
    have ih := pickL_perm (l := l) (i := i) (j := j) (by simp at hi; omega) (by simp at hj; omega)
    rw [pickL_two, pickL_cons]
    have h2 : pickL (y :: l) 0 (j + 1) = y :: pickL l 1 j := by
      unfold pickL
      rw [List.range_succ_eq_map, List.flatMap_cons, List.flatMap_map]
      simp only [Nat.mul_zero, Nat.add_zero, List.getElem?_cons_zero, Option.toList_some, List.singleton_append, List.cons.injEq, true_and]
      congr 1; funext q
      rw [show 0 + 2 * (q + 1) = 1 + 2 * q + 1 by omega, List.getElem?_cons_succ]
    rw [h2, List.cons_append]
    exact List.Perm.cons x (List.perm_middle.trans (List.Perm.cons y ih))
/-! the two orders -/
theorem Alone.kind {l : List Mv} (h : Alone l) : ∀ x ∈ l, x.kind ≤ 2 := fun x hx => by
  obtain ⟨i, hi⟩ := List.getElem?_of_mem hx
  exact (h i x (List.getElem?_eq_some_iff.1 hi).1 hi).1
theorem Alone.inj {l : List Mv} (h : Alone l) {x y : Mv} (hx : x ∈ l) (hy : y ∈ l) (e : x.value = y.value) : x = y := by
  obtain ⟨i, hi⟩ := List.getElem?_of_mem hx
  obtain ⟨j, hj⟩ := List.getElem?_of_mem hy
  rcases Nat.lt_trichotomy i j with hl | rfl | hl
  · exact absurd e ((h j y (List.getElem?_eq_some_iff.1 hj).1 hj).2 i x hl hi)
  · rw [hi] at hj; cases hj; rfl
  · exact absurd e.symm ((h i x (List.getElem?_eq_some_iff.1 hi).1 hi).2 j y hl hj)
theorem sorted_eM {ms : List Mv} : ((ordM ms).map eM).Pairwise (fun a b => a.value ≤ b.value) := by
  rw [List.pairwise_map, List.pairwise_iff_getElem]
  intro i j hi hj hij
  exact ordM_sort ms i j (ordM ms)[i] (ordM ms)[j] (by omega) (List.getElem?_eq_getElem hi) (List.getElem?_eq_getElem hj)
theorem ord_same {l F H : List Mv} (ha : Alone l) (hF : F.map eM = l.map eM) (hH : (H.map eM).Perm (l.map eM)) : (ordM F).map eM = (ordM H).map eM := by
  have p1 : ((ordM F).map eM).Perm (l.map eM) := ((ordM_perm F).map eM).trans (by rw [hF])
  have p2 : ((ordM H).map eM).Perm (l.map eM) := ((ordM_perm H).map eM).trans hH
  refine List.Perm.eq_of_pairwise (le := fun a b => a.value ≤ b.value) (fun a b ha' hb' h1 h2 => ?_) sorted_eM sorted_eM (p1.trans p2.symm)
  obtain ⟨x, hx, rfl⟩ := List.mem_map.1 (p1.mem_iff.1 ha')
  obtain ⟨y, hy, rfl⟩ := List.mem_map.1 (p2.mem_iff.1 hb')
  have : x.value = y.value := Int.le_antisymm h1 h2
  rw [ha.inj hx hy this]
/-- What the two engines have in common. -/
structure Both (k p : Int) (F H : List Mv) : Prop where
  ord : (ordM F).map eM = (ordM H).map eM
  gF : Good k p F
  gH : Good k p H
  kn : ∀ m ∈ ordM F, m.kind = 1 ∨ m.kind = 2
theorem both_of {k p : Int} {l m : List Mv} (h0 : startE k p = 0) (ha : Alone l) (hp : m.Perm l) (hF : (fillM k p l).length = l.length) (hH : (fillM k p m).length = m.length) : Both k p (fillM k p l) (fillM k p m) := by
  have gF := fill_good h0 l
  have e1 := fill_eM hF
  refine ⟨ord_same ha e1 (by rw [fill_eM hH]; exact hp.map eM), gF, fill_good h0 m, fun x hx => ?_⟩
  have hx2 := (ordM_perm _).mem_iff.1 hx
  obtain ⟨i, hi⟩ := List.getElem?_of_mem hx2
  have h1 := (MG.of (gF.fine i x hi).2.1).k
  have h2 : eM x ∈ l.map eM := by rw [← e1]; exact List.mem_map_of_mem hx2
  obtain ⟨y, hy, e⟩ := List.mem_map.1 h2
  have h3 := ha.kind y hy
  have h4 := congrArg Mv.kind e
  simp only [eM] at h4
  omega
theorem Both.at_ {k p : Int} {F H : List Mv} (h : Both k p F H) {i : Nat} {x y : Mv} (hx : (ordM F)[i]? = some x) (hy : (ordM H)[i]? = some y) : x.value = y.value ∧ ∃ a b, costAt (csOf k p F) x.seq = (a, true) ∧ costAt (csOf k p H) y.seq = (b, true) ∧ a.qty = b.qty ∧ a.value = b.value ∧ a.var = b.var := by
  obtain ⟨t, cs, hr⟩ := h.gF.rep
  obtain ⟨t', cs', hr'⟩ := h.gH.rep
  have l1 := runM_len hr
  have l2 := runM_len hr'
  have hi := (List.getElem?_eq_some_iff.1 hx).1
  have hj := (List.getElem?_eq_some_iff.1 hy).1
  have e0 := congrArg (·[i]?) h.ord
  simp only [List.getElem?_map, hx, hy, Option.map_some, Option.some.injEq] at e0
  obtain ⟨a, ha⟩ : ∃ a, cs[i]? = some a := ⟨_, List.getElem?_eq_getElem (by omega)⟩
  obtain ⟨b, hb⟩ : ∃ b, cs'[i]? = some b := ⟨_, List.getElem?_eq_getElem (by omega)⟩
  have hrun := run_two h.kn rfl h.ord (runM_iff.1 hr).2 (runM_iff.1 hr').2
  have e1 := congrArg (·[i]?) hrun.2
  simp only [List.getElem?_map, ha, hb, Option.map_some, Option.some.injEq] at e1
  have s1 := runM_seq hr hx ha
  have s2 := runM_seq hr' hy hb
  refine ⟨(show (eM x).value = (eM y).value by rw [e0]), a, b, by rw [← s1]; exact cost_rep h.gF.fine hr ha, by rw [← s2]; exact cost_rep h.gH.fine hr' hb, (show (eC a).qty = (eC b).qty by rw [e1]), (show (eC a).value = (eC b).value by rw [e1]), (show (eC a).var = (eC b).var by rw [e1])⟩
theorem Both.sk {k p : Int} {F H : List Mv} (h : Both k p F H) : (skOf k p F).qty = (skOf k p H).qty ∧ (skOf k p F).value = (skOf k p H).value := by
  obtain ⟨t, cs, hr⟩ := h.gF.rep
  obtain ⟨t', cs', hr'⟩ := h.gH.rep
  have hrun := run_two h.kn rfl h.ord (runM_iff.1 hr).2 (runM_iff.1 hr').2
  rw [skOf_ok hr, skOf_ok hr']
  exact ⟨(show (eS t).qty = (eS t').qty by rw [hrun.1]), (show (eS t).value = (eS t').value by rw [hrun.1])⟩
theorem Both.len {k p : Int} {F H : List Mv} (h : Both k p F H) : (ordM F).length = (ordM H).length := by
  have := congrArg List.length h.ord
  rwa [List.length_map, List.length_map] at this
end Go.SL
namespace Go.SL
open Go
theorem Good.seqs {k p : Int} {ms : List Mv} (h : Good k p ms) {i : Nat} {x : Mv} (hx : (ordM ms)[i]? = some x) : i64 x.seq := by
  obtain ⟨q, hq⟩ := List.getElem?_of_mem ((ordM_perm _).mem_iff.1 (List.mem_of_getElem? hx))
  have h1 := (h.fine q x hq).1
  have h2 := (List.getElem?_eq_some_iff.1 hq).1
  have h3 := h.n
  unfold i64; omega
theorem pick_len {l : List Mv} {i j : Nat} (h1 : l.length ≤ 2 * i) (h2 : l.length ≤ 1 + 2 * j) : (pickL l 0 i ++ pickL l 1 j).length = l.length := (pickL_perm h1 h2).length_eq
end Go.SL
