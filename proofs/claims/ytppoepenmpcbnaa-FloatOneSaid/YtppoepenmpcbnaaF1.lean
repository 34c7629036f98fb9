/- Numbers: what is written is no NaN; the four operations and the floor as functions of words. -/
import Derived.Test.YtppoepenmpcbnaaF0
namespace Go.Proofs.Ytppoepenmpcbnaa.J
open Go Go.RowKit
set_option linter.unusedVariables false
set_option linter.unusedSimpArgs false

theorem word_rung {s : Bool} {r : Nat} (h : r < 2 ^ 63) : rung (Ieee.double.word s r) = r ∧ sgn (Ieee.double.word s r) = s ∧ Ieee.double.word s r < 2 ^ 64 := by
  have hw : Ieee.double.word s r = if s then 2 ^ 63 + r else r := rfl
  rw [hw]
  unfold rung sgn
  cases s
  · simp only [Bool.false_eq_true, if_false]
    refine ⟨by omega, ?_, by omega⟩
    rw [Nat.div_eq_of_lt h]; rfl
  · simp only [if_true]
    refine ⟨by omega, ?_, by omega⟩
    rw [show (2 ^ 63 + r) / 2 ^ 63 = 1 by omega]; rfl

theorem infR_lt : infR < 2 ^ 63 := by decide

theorem nearest_word (s : Bool) (m : Nat) (p : Int) : ∃ r, r ≤ infR ∧ Ieee.double.nearest s m p = Ieee.double.word s r := by
  unfold Ieee.Format.nearest
  split
  · exact ⟨0, Nat.zero_le _, rfl⟩
  · exact ⟨_, Nat.min_le_right _ _, rfl⟩

theorem write_word {d : Ieee.Datum} (h : d.isNaN = false) : ∃ r, r ≤ infR ∧ Ieee.double.write d = Ieee.double.word d.neg r := by
  cases d with
  | nan s t => simp [Ieee.Datum.isNaN] at h
  | infinity s => exact ⟨infR, Nat.le_refl _, rfl⟩
  | number s m p => exact nearest_word s m p

theorem isNan_word {s : Bool} {r : Nat} (h : r ≤ infR) : isNan (Ieee.double.word s r) = false := by
  rw [isNan_eq, (word_rung (Nat.lt_of_le_of_lt h infR_lt)).1]; simp; omega

theorem write_nonnan {d : Ieee.Datum} (h : d.isNaN = false) : isNan (Ieee.double.write d) = false := by
  obtain ⟨r, hr, hw⟩ := write_word h
  rw [hw]; exact isNan_word hr
theorem write_lt64 (d : Ieee.Datum) : Ieee.double.write d < 2 ^ 64 := by
  cases d with
  | nan s t =>
    refine (word_rung ?_).2.2
    have h : t % Ieee.double.binade < 2 ^ 52 := Nat.mod_lt _ (by decide)
    have : Ieee.double.infRung = infR := rfl
    rw [this]; unfold infR; omega
  | infinity s => exact (word_rung (r := infR) infR_lt).2.2
  | number s m p => obtain ⟨r, hr, hw⟩ := nearest_word s m p; show Ieee.double.nearest s m p < _; rw [hw]; exact (word_rung (Nat.lt_of_le_of_lt hr infR_lt)).2.2

theorem farith_some {op : BinOp} {a b c : Nat} (h : farithN op a b = some c) : isNan c = false ∧ c < 2 ^ 64 := by
  have key : ∀ {o : Option Ieee.Datum}, (∀ d, o = some d → d.isNaN = false) → o.map Ieee.double.write = some c → isNan c = false ∧ c < 2 ^ 64 := by
    intro o ho h
    cases o with
    | none => cases h
    | some d => cases h; exact ⟨write_nonnan (ho d rfl), write_lt64 d⟩
  have hsum : ∀ x y d, Ieee.Datum.sum x y = some d → d.isNaN = false := by
    intro x y d h
    cases x <;> cases y <;> simp [Ieee.Datum.sum] at h
    · subst h; rfl
    · subst h; rfl
    · subst h; rfl
    · rw [← h.2]; rfl
  have hprod : ∀ x y d, Ieee.Datum.product x y = some d → d.isNaN = false := by
    intro x y d h
    cases x <;> cases y <;> simp [Ieee.Datum.product] at h
    · subst h; rfl
    · rw [← h.2]; rfl
    · rw [← h.2]; rfl
    · subst h; rfl
  have hquo : ∀ k x y d, Ieee.Datum.quotient k x y = some d → d.isNaN = false := by
    intro k x y d h
    cases x <;> cases y <;> simp only [Ieee.Datum.quotient] at h <;> (repeat' split at h) <;> first | (cases h; rfl) | cases h
  cases op <;> first | exact key (hsum _ _) h | exact key (hprod _ _) h | exact key (hquo _ _ _) h

def arithN (op : BinOp) (a b : Nat) : Nat := (farithN op a b).getD oneNan
theorem arith_canon {op : BinOp} {a b c : Nat} (h : farithN op a b = some c ∨ (farithN op a b = none ∧ nanAny c)) : canonN c = arithN op a b := by
  rcases h with h | ⟨h, hn⟩
  · simp [arithN, h, canonN, (farith_some h).1]
  · simp [arithN, h, canonN, nanAny_nan hn]

def floorN (b : Nat) : Nat := Ieee.double.write ((rdw b).integral .down)
def truncN (b : Nat) : Nat := Ieee.double.write ((rdw b).integral .zero)
def floorC (b : Nat) : Nat := if isNan b then oneNan else floorN b
theorem integral_nonnan {b : Nat} (h : isNan b = false) (way : Ieee.Toward) : ((rdw b).integral way).isNaN = false := by
  unfold isNan at h
  cases hd : rdw b with
  | nan s t => rw [hd] at h; simp [Ieee.Datum.isNaN] at h
  | infinity s => rfl
  | number s m p => rfl

theorem quiet_nan {s : Bool} {t : Nat} : isNan (Ieee.double.write (.nan s (Ieee.double.quiet t))) = true := by
  show isNan (Ieee.double.word s (infR + (t ||| 2 ^ 51) % 2 ^ 52)) = true
  have h1 : (t ||| 2 ^ 51) % 2 ^ 52 < 2 ^ 52 := Nat.mod_lt _ (by decide)
  have h2 : (t ||| 2 ^ 51) % 2 ^ 52 ≠ 0 := by
    intro h
    have h3 : ((t ||| 2 ^ 51) % 2 ^ 52).testBit 51 = true := by
      rw [Nat.testBit_mod_two_pow, Nat.testBit_or, Nat.testBit_two_pow_self]; simp
    rw [h] at h3; simp at h3
  rw [isNan_eq, (word_rung (by unfold infR; omega)).1]
  exact decide_eq_true (by omega)

section
variable {P : Program} {E : Ent} {Q : Exit → St → Prop} {n : Nat} {env : List (Nat × AV)} {own : List Own} {F : List (Value × AV)} {D : List Deferred} {d : Nat} {ops : Array Oper} {rest : List Oper}
variable {ty : TypeId} {pos : String} {af : Array Edge} {x : Operand}

theorem callFunc_ext {f : FuncId} {fn : Func} {e : Array Value → Sem Value} (h1 : P.funcs[f]? = some fn) (h2 : (fn.name == "runtime.NumGoroutine") = false) (h3 : fn.body.isNone = true)
    (h4 : (Extern.findNext fn).isNone = true) (h5 : Extern.find fn = some e) (args : Array Value) (w : World) :
    (callFunc f args).run P w = ((e args).run P w).andThen fun v w => .ok (.value v) w := by
  have h4' : Extern.findNext fn = none := by cases h : Extern.findNext fn <;> simp_all
  simp only [callFunc, Sem.run_bind, run_program, Result.andThen_ok, h1, h2, h3, h4', h5, Bool.false_eq_true, if_false, if_true, run_mark]
  rfl

theorem ret_bool {a b : Bool} (h : a = b) : Res.ret (.c (.bool a)) = Res.ret (.c (.bool b)) := by rw [h]

/-- math.Floor and math.Trunc of a machine. -/
theorem JL.arch {f : FuncId} {tys : Array TypeId} {nm : String} {way : Ieee.Toward} {b : Nat}
    (hf : ∀ (b : Nat) w, (callFunc f #[flt b]).run P w = ((Extern.MathFloor.toIntegral nm way #[flt b]).run P w).andThen fun v w => .ok (.value v) w)
    (hx : Ev E ⟨n, env, own, F, D⟩ x (.c (flt b))) (hd : Nat.blt d n = true)
    (h : ∀ c, ((isNan b = false ∧ c = Ieee.double.write ((rdw b).integral way)) ∨ (isNan b = true ∧ isNan c = true)) → JL P E ops rest ⟨n, (d, .c (flt c)) :: env, own, F, D⟩ Q) :
    JL P E ops (⟨some d, .call ⟨.value (.func f), #[x], tys⟩, ty, pos, af, none⟩ :: rest) ⟨n, env, own, F, D⟩ Q := fun act w ⟨A, hA⟩ => by
  refine wpList_plain rfl fun K hK => ?_
  unfold Oper.wp
  have hrun : (execOp act.eval ⟨some d, .call ⟨.value (.func f), #[x], tys⟩, ty, pos, af, none⟩).run P w = ((Extern.MathFloor.toIntegral nm way #[flt b]).run P w).andThen fun v w => .ok (.value v) w := by
    rw [← hf b w]
    simp only [execOp, resolve, Act.eval, Deferred.ofValue, Sem.run_bind, Sem.run_pure, Result.andThen_ok, invoke]
    simp [hx.eq hA]
  rw [hrun]
  have heq : Extern.MathFloor.toIntegral nm way #[flt b] = (match FloatKind.f64.decode b with
      | .nan s t => if FloatKind.f64.format.quiet t = t then pure (flt b) else do
        let kept ← choose (.extern "math.Floor,Ceil,Trunc,RoundToEven.signallingNaN kept" 2)
        pure (flt (if kept == 1 then b else FloatKind.f64.encode (.nan s (FloatKind.f64.format.quiet t))))
      | d => pure (flt (FloatKind.f64.encode (d.integral way)))) := rfl
  rw [heq]
  simp only [FloatKind.decode, FloatKind.encode, show FloatKind.f64.format = Ieee.double from rfl]
  cases hd' : rdw b with
  | nan s t =>
    have hnb : isNan b = true := by unfold isNan; rw [hd']; rfl
    have hd'' : Ieee.double.read b = .nan s t := hd'
    simp only [hd'']
    by_cases hq : Ieee.double.quiet t = t
    · simp only [hq, if_true, Sem.run_pure, Result.andThen_ok, Oper.upon_value]
      exact hK _ _ (h b (.inr ⟨hnb, hnb⟩) _ _ ⟨A, hA.put (blt_lt hd) (.c _)⟩)
    · have hk : ∀ c, isNan c = true → K (act.put (some d) (flt c)) (World.drawnBy w) := fun c hc => hK _ _ (h c (.inr ⟨hnb, hc⟩) _ _ ⟨A, hA.draw.put (blt_lt hd) (.c _)⟩)
      simp only [hq, if_false, Sem.run_bind, run_choose, Question.forced]
      simp only [show (2 = 1) = False by simp, decide_false, Bool.false_eq_true, if_false, Result.andThen_ok, Sem.run_pure, Oper.upon_value]
      refine hk _ ?_
      split
      · exact hnb
      · exact quiet_nan
  | infinity s =>
    have hnb : isNan b = false := by unfold isNan; rw [hd']; rfl
    have hd'' : Ieee.double.read b = .infinity s := hd'
    simp only [hd'', Sem.run_pure, Result.andThen_ok, Oper.upon_value]
    exact hK _ _ (h _ (.inl ⟨hnb, by rw [hd']⟩) _ _ ⟨A, hA.put (blt_lt hd) (.c _)⟩)
  | number s m p =>
    have hnb : isNan b = false := by unfold isNan; rw [hd']; rfl
    have hd'' : Ieee.double.read b = .number s m p := hd'
    simp only [hd'', Sem.run_pure, Result.andThen_ok, Oper.upon_value]
    exact hK _ _ (h _ (.inl ⟨hnb, by rw [hd']⟩) _ _ ⟨A, hA.put (blt_lt hd) (.c _)⟩)
end
end Go.Proofs.Ytppoepenmpcbnaa.J
