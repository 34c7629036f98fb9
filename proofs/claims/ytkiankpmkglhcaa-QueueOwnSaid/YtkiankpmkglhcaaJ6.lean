/- Rules for floats, for functions without a Go body, for function values, max and min; contracts that tell of their result. -/
import Derived.Test.YtkiankpmkglhcaaJ5
namespace Go.Proofs.Ytkiankpmkglhcaa.J
open Go Go.RowKit
set_option linter.unusedVariables false
set_option linter.unusedSimpArgs false

abbrev flt (b : Nat) : Value := .float .f64 b
abbrev ford (a b : Nat) : Option Ordering := FloatKind.f64.format.order a b

/-- A contract that tells something of the one result. -/
abbrev FnR (P : Program) (f : FuncId) (xs : List AV) (R : AV → Prop) : Prop := AC P f [] xs fun r own' => own' = [] ∧ ∃ x, r = .ret x ∧ R x

section
variable {P : Program} {E : Ent} {st : St} {t : TypeId} {g : Bool} {m B : Nat} {w : World} {dd : Option Tmp} {ty : TypeId} {pos : String} {af : Array Edge} {gd : Option (Nat × Bool)} {x y z : Operand} {yt : TypeId}
variable {Q : Exit → St → Prop} {n : Nat} {env : List (Nat × AV)} {own : List Own} {F : List (Value × AV)} {D : List Deferred} {d : Nat} {ops : Array Oper} {rest : List Oper}

theorem Fn.toR {f : FuncId} {xs : List AV} {z : AV} {R : AV → Prop} (h : Fn P f xs z) (hR : R z) : FnR P f xs R := h.mono fun r o ⟨h1, h2⟩ => ⟨h2, z, h1, hR⟩

theorem JL.call0 {f : FuncId} {l : List Operand} {tys : Array TypeId} {xs : List AV} {R : AV → Prop} (hf : goFn P f = true) (hd : Nat.blt d n = true) (hargs : EvL E ⟨n, env, own, F, D⟩ l xs) (hAC : FnR P f xs R)
    (hret : ∀ z, R z → JL P E ops rest ⟨n, (d, z) :: env, own, F, D⟩ Q) :
    JL P E ops (⟨some d, .call ⟨.value (.func f), l.toArray, tys⟩, ty, pos, af, none⟩ :: rest) ⟨n, env, own, F, D⟩ Q :=
  JL.call (op := []) (ro := own) hf hd hargs (.refl _) hAC (fun z own' ⟨h1, z', h2, h3⟩ => by subst h1; cases h2; exact hret z h3) (fun v own' ⟨_, z', h2, _⟩ => by cases h2)

theorem JL.callV0 {f : FuncId} {fo : Operand} {fi ca : List Value} {l : List Operand} {tys : Array TypeId} {xs zs : List AV} {R : AV → Prop} (hf : goFn P f = true) (hd : Nat.blt d n = true)
    (hfo : Ev E ⟨n, env, own, F, D⟩ fo (.c (.func (.func f) fi.toArray ca.toArray))) (hargs : EvL E ⟨n, env, own, F, D⟩ l xs) (hzs : fi.map AV.c ++ xs ++ ca.map AV.c = zs) (hAC : FnR P f zs R)
    (hret : ∀ z, R z → JL P E ops rest ⟨n, (d, z) :: env, own, F, D⟩ Q) :
    JL P E ops (⟨some d, .call ⟨.value fo, l.toArray, tys⟩, ty, pos, af, none⟩ :: rest) ⟨n, env, own, F, D⟩ Q :=
  JL.callV (op := []) (ro := own) hf hd hfo hargs hzs (.refl _) hAC (fun z own' ⟨h1, z', h2, h3⟩ => by subst h1; cases h2; exact hret z h3) (fun v own' ⟨_, z', h2, _⟩ => by cases h2)

/-- A function without a Go body. -/
theorem QW.ext {f : FuncId} {tys : Array TypeId} {v r : Value} (hext : ∀ w, (callFunc f #[v]).run P w = .ok (.value r) w) (hx : Ev E st x (.c v)) :
    QW P E st ⟨dd, .call ⟨.value (.func f), #[x], tys⟩, ty, pos, af, gd⟩ (.c r) := .pure fun A a w hs => by
  refine ⟨r, ?_, .c r⟩
  have := hext w
  simp only [execOp, resolve, Act.eval, Deferred.ofValue, Sem.run_bind, Sem.run_pure, Result.andThen_ok, invoke]
  simpa [hx.eq hs] using this

section
variable {a b : Nat}
theorem QW.eql_f (hx : Ev E st x (.c (flt a))) (hy : Ev E st y (.c (flt b))) : QW P E st ⟨dd, .binOp .eql t x y yt, ty, pos, af, gd⟩ (.c (.bool (ford a b == some .eq))) := .bin hx hy guard_float (fun w => by simp [binOp, Op.floatCmp])
theorem QW.neq_f (hx : Ev E st x (.c (flt a))) (hy : Ev E st y (.c (flt b))) : QW P E st ⟨dd, .binOp .neq t x y yt, ty, pos, af, gd⟩ (.c (.bool (ford a b != some .eq))) := .bin hx hy guard_float (fun w => by simp [binOp, Op.floatCmp])
theorem QW.lss_f (hx : Ev E st x (.c (flt a))) (hy : Ev E st y (.c (flt b))) : QW P E st ⟨dd, .binOp .lss t x y yt, ty, pos, af, gd⟩ (.c (.bool (ford a b == some .lt))) := .bin hx hy guard_float (fun w => by simp [binOp, Op.floatCmp])
theorem QW.leq_f (hx : Ev E st x (.c (flt a))) (hy : Ev E st y (.c (flt b))) : QW P E st ⟨dd, .binOp .leq t x y yt, ty, pos, af, gd⟩ (.c (.bool (ford a b == some .lt || ford a b == some .eq))) := .bin hx hy guard_float (fun w => by simp [binOp, Op.floatCmp])
theorem QW.gtr_f (hx : Ev E st x (.c (flt a))) (hy : Ev E st y (.c (flt b))) : QW P E st ⟨dd, .binOp .gtr t x y yt, ty, pos, af, gd⟩ (.c (.bool (ford a b == some .gt))) := .bin hx hy guard_float (fun w => by simp [binOp, Op.floatCmp])
theorem QW.geq_f (hx : Ev E st x (.c (flt a))) (hy : Ev E st y (.c (flt b))) : QW P E st ⟨dd, .binOp .geq t x y yt, ty, pos, af, gd⟩ (.c (.bool (ford a b == some .gt || ford a b == some .eq))) := .bin hx hy guard_float (fun w => by simp [binOp, Op.floatCmp])
end

/-- The four operations on floats, by name. -/
def farithN (op : BinOp) (a b : Nat) : Option Nat :=
  match op with
  | .add => FloatKind.f64.format.add a b
  | .sub => FloatKind.f64.format.sub a b
  | .mul => FloatKind.f64.format.mul a b
  | _ => FloatKind.f64.format.div a b

/-- What a NaN that the machine chooses may be. -/
def nanAny (c : Nat) : Prop := ∃ t : Nat, c = (t % 2) * 2 ^ 63 + 0x7ff0000000000000 + 1 + (t / 2) % (2 ^ 52 - 1)

theorem JL.farith {op : BinOp} {a b : Nat} (hop : op = .add ∨ op = .sub ∨ op = .mul ∨ op = .quo) (hx : Ev E ⟨n, env, own, F, D⟩ x (.c (flt a))) (hy : Ev E ⟨n, env, own, F, D⟩ y (.c (flt b))) (hd : Nat.blt d n = true)
    (h : ∀ c, (farithN op a b = some c ∨ (farithN op a b = none ∧ nanAny c)) → JL P E ops rest ⟨n, (d, .c (flt c)) :: env, own, F, D⟩ Q) :
    JL P E ops (⟨some d, .binOp op t x y yt, ty, pos, af, none⟩ :: rest) ⟨n, env, own, F, D⟩ Q := fun act w ⟨A, hA⟩ => by
  refine wpListIn_plain rfl fun K hK => ?_
  refine wpR (by intro c h; cases h) ?_
  unfold Oper.wp
  have hb : binOp op t (flt a) (flt b) = Op.floatArith op .f64 a b := by rcases hop with rfl | rfl | rfl | rfl <;> simp [binOp]
  have hg : (eqGuard op t x y (flt a) (flt b)).run P w = .ok () w := guard_float w
  cases hc : farithN op a b with
  | some c =>
    have hr : (execOp act.eval ⟨some d, .binOp op t x y yt, ty, pos, af, none⟩).run P w = .ok (.value (flt c)) w := by
      simp only [execOp, hx.eq hA, hy.eq hA, Sem.run_bind, hg, Result.andThen_ok, hb, Op.floatArith]
      rcases hop with rfl | rfl | rfl | rfl <;> simp [farithN] at hc <;> simp [hc]
    rw [hr, Oper.upon_value]
    exact hK _ _ (h c (.inl hc) _ _ ⟨A, hA.put (blt_lt hd) (.c _)⟩)
  | none =>
    have hr : (execOp act.eval ⟨some d, .binOp op t x y yt, ty, pos, af, none⟩).run P w = .ok (.value (flt (Question.cut (.nanBits .f64 a b) (w.tape w.drawn (.nanBits .f64 a b))))) (World.drawnBy w) := by
      simp only [execOp, hx.eq hA, hy.eq hA, Sem.run_bind, hg, Result.andThen_ok, hb, Op.floatArith]
      rcases hop with rfl | rfl | rfl | rfl <;> simp [farithN] at hc <;> simp [hc, Question.forced] <;> rfl
    rw [hr, Oper.upon_value]
    refine hK _ _ (h _ (.inr ⟨hc, ⟨_, rfl⟩⟩) _ _ ⟨A, hA.draw.put (blt_lt hd) (.c _)⟩)

theorem QW.neg_f {a : Nat} (hx : Ev E st x (.c (flt a))) : QW P E st ⟨dd, .unOp .neg t x, ty, pos, af, gd⟩ (.c (flt (Op.negFloat .f64 a))) := .pure fun A act w hs =>
  ⟨_, by simp only [execOp, hx.eq hs, Op.unary, Sem.run_bind, Sem.run_pure, Result.andThen_ok], .c _⟩

theorem QW.conv_if {k : IntKind} {a : Int} {s : TypeId} (hs : (P.underlying s).isSome = true) (hU : P.underlying t = some (.float .f64)) (hx : Ev E st x (.c (.int k a))) :
    QW P E st ⟨dd, .convert s t x, ty, pos, af, gd⟩ (.c (flt (FloatKind.f64.nearest a))) := .pure fun A act w hs' => by
  obtain ⟨ds, hds⟩ := Option.isSome_iff_exists.1 hs
  exact ⟨_, by simp only [execOp, hx.eq hs', Go.convert, Sem.run_bind, run_underlying _ hds, run_underlying _ hU, Result.andThen_ok, Conv.intToFloat, Sem.run_pure], .c _⟩

theorem QW.conv_fi {a : Nat} {s : TypeId} {i : Int} (hs : (P.underlying s).isSome = true) (hU : P.underlying t = some (.int .i64)) (hx : Ev E st x (.c (flt a)))
    (hi : (FloatKind.f64.decode a).toInt .zero = some i) (hb : -9223372036854775808 ≤ i ∧ i ≤ 9223372036854775807) :
    QW P E st ⟨dd, .convert s t x, ty, pos, af, gd⟩ (.c (.int .i64 i)) := .pure fun A act w hs' => by
  obtain ⟨ds, hds⟩ := Option.isSome_iff_exists.1 hs
  have hb' : IntKind.i64.min ≤ i ∧ i ≤ IntKind.i64.max := hb
  exact ⟨_, by simp only [execOp, hx.eq hs', Go.convert, Sem.run_bind, run_underlying _ hds, run_underlying _ hU, Result.andThen_ok, Conv.floatToInt, hi, if_pos hb', Sem.run_pure], .c _⟩

theorem QW.max2 {k : IntKind} {a b : Int} {tys : Array TypeId} (hx : Ev E st x (.c (.int k a))) (hy : Ev E st y (.c (.int k b))) :
    QW P E st ⟨dd, .call ⟨.builtin .max, #[x, y], tys⟩, ty, pos, af, gd⟩ (.c (.int k (if b > a then b else a))) := .pure fun A act w hs =>
  ⟨_, by simp [execOp, resolve, invoke, builtin, Builtin.max_, hx.eq hs, hy.eq hs, Builtin.max2], .c _⟩
theorem QW.min2 {k : IntKind} {a b : Int} {tys : Array TypeId} (hx : Ev E st x (.c (.int k a))) (hy : Ev E st y (.c (.int k b))) :
    QW P E st ⟨dd, .call ⟨.builtin .min, #[x, y], tys⟩, ty, pos, af, gd⟩ (.c (.int k (if b < a then b else a))) := .pure fun A act w hs =>
  ⟨_, by simp [execOp, resolve, invoke, builtin, Builtin.min_, hx.eq hs, hy.eq hs, Builtin.min2], .c _⟩

/-- Operands of exact values. -/
inductive EvC (E : Ent) (st : St) : List Operand → List Value → Prop
  | nil : EvC E st [] []
  | cons {x : Operand} {v : Value} {l : List Operand} {vs : List Value} (h : Ev E st x (.c v)) (hs : EvC E st l vs) : EvC E st (x :: l) (v :: vs)
theorem EvC.eq {l : List Operand} {vs : List Value} (h : EvC E st l vs) {A : Foot} {act : Act} {w : World} (hs : SatA E A st act w) : l.map act.eval = vs := by
  induction h with
  | nil => rfl
  | cons h _ ih => simp [h.eq hs, ih]
theorem QW.mkFunc {fn : Go.Fn} {l l' : List Operand} {vs vs' : List Value} (h : EvC E st l vs) (h' : EvC E st l' vs') :
    QW P E st ⟨dd, .makeFunc fn l.toArray l'.toArray, ty, pos, af, gd⟩ (.c (.func fn vs.toArray vs'.toArray)) := .pure fun A act w hs =>
  ⟨_, by
    have h1 := h.eq hs
    have h2 := h'.eq hs
    simp only [execOp, Instr.makeFunc, Sem.run_bind, Sem.run_pure, Result.andThen_ok, List.map_toArray, h1, h2], .c _⟩

theorem run_eql_bool (hU : P.underlying t = some .bool) (a b : Bool) : (Op.equal t (.bool a) (.bool b)).run P w = .ok (a == b) w := by
  unfold Op.equal Op.maxDepth Op.equalIn
  simp only [Sem.run_bind, run_underlying _ hU, Result.andThen_ok, Sem.run_pure]

theorem QW.eql_b {a b : Bool} (hU : P.underlying t = some .bool) (hx : Ev E st x (.c (.bool a))) (hy : Ev E st y (.c (.bool b))) : QW P E st ⟨dd, .binOp .eql t x y yt, ty, pos, af, gd⟩ (.c (.bool (a == b))) := .bin hx hy guard_bool (fun w => by
  simp only [binOp, Sem.run_bind, run_eql_bool hU, Result.andThen_ok, Sem.run_pure])
theorem QW.neq_b {a b : Bool} (hU : P.underlying t = some .bool) (hx : Ev E st x (.c (.bool a))) (hy : Ev E st y (.c (.bool b))) : QW P E st ⟨dd, .binOp .neq t x y yt, ty, pos, af, gd⟩ (.c (.bool (!(a == b)))) := .bin hx hy guard_bool (fun w => by
  simp only [binOp, Sem.run_bind, run_eql_bool hU, Result.andThen_ok, Sem.run_pure])
end
end Go.Proofs.Ytkiankpmkglhcaa.J
