/- From a contract to the calls of a row: the contract of a law that owns nothing, as the statement's own form asks for it. -/
import Derived.Test.YtkiankpmkglhcaaJ0
namespace Go.Proofs.Ytkiankpmkglhcaa.J
open Go Go.RowKit
set_option linter.unusedVariables false

/-- Nothing readable, nothing owned. -/
theorem Hp.start (w : World) (A0 : Foot) (hm : ∀ b, A0 true b → A0 false b) (hlt : ∀ fr b, A0 fr b → b < w.heap.size) : Hp w.heap.size (fps []) A0 [] w A0 :=
  ⟨hm, fun _ _ h => h, fun _ _ h => .inl h, hlt, fun b hb => by simp [fps] at hb, by simp [fps], fun o ho => by cases ho⟩

/-- Every block is readable, none may be written. -/
abbrev allOf (w : World) : Foot := fun fr b => fr = false ∧ b < w.heap.size

theorem AC.callsB {P : Program} {f : FuncId} {xs : List AV} {b : Bool} (h : Fn P f xs (.c (.bool b))) (w : World) (vs : Array Value) (hr : RdL w (allOf w) vs xs) :
    Calls P f vs w fun e w' => e = .returned (.bool b) ∧ Below w.heap.size w w' := by
  refine (h w (allOf w) vs (Hp.start w _ (fun _ h => by cases h.1) (fun _ _ h => h.2)) hr).mono fun e w' ⟨r, o, A, ⟨h1, h2⟩, h3, h4, h5⟩ => ?_
  subst h1
  obtain ⟨v, rfl, hv⟩ := h5
  rw [hv.eq]
  exact ⟨rfl, h3.below⟩

theorem RdL.nil {w : World} {A : Foot} : RdL w A #[] [] := ⟨rfl, fun i x h => by simp at h⟩
theorem RdL.one {w : World} {A : Foot} {v : Value} {x : AV} (h : Rd w A v x) : RdL w A #[v] [x] :=
  ⟨rfl, fun i y hy => by match i, hy with | 0, hy => simp at hy; subst hy; exact h⟩
theorem RdL.two {w : World} {A : Foot} {v v1 : Value} {x x1 : AV} (h : Rd w A v x) (h1 : Rd w A v1 x1) : RdL w A #[v, v1] [x, x1] :=
  ⟨rfl, fun i y hy => by
    match i, hy with
    | 0, hy => simp at hy; subst hy; exact h
    | 1, hy => simp at hy; subst hy; exact h1⟩
theorem RdL.three {w : World} {A : Foot} {v v1 v2 : Value} {x x1 x2 : AV} (h : Rd w A v x) (h1 : Rd w A v1 x1) (h2 : Rd w A v2 x2) : RdL w A #[v, v1, v2] [x, x1, x2] :=
  ⟨rfl, fun i y hy => by
    match i, hy with
    | 0, hy => simp at hy; subst hy; exact h
    | 1, hy => simp at hy; subst hy; exact h1
    | 2, hy => simp at hy; subst hy; exact h2⟩

/-- A word of the language as a natural number. -/
theorem u64_nat {n : Int} (h : (Lit.int .u64 n).wf = true) : ∃ b : Nat, n = (b : Int) ∧ b < 2 ^ 64 := by
  have h' : 0 ≤ n ∧ n < 18446744073709551616 := by
    simp only [Lit.wf, Bool.and_eq_true, decide_eq_true_eq] at h
    have h1 : IntKind.u64.min = 0 := by decide
    have h2 : IntKind.u64.max = 18446744073709551615 := by decide
    rw [h1, h2] at h
    omega
  exact ⟨n.toNat, by omega, by omega⟩

theorem i64_bounds {n : Int} (h : (Lit.int .i64 n).wf = true) : -9223372036854775808 ≤ n ∧ n ≤ 9223372036854775807 := by
  simp only [Lit.wf, Bool.and_eq_true, decide_eq_true_eq] at h
  have h1 : IntKind.i64.min = -9223372036854775808 := by decide
  have h2 : IntKind.i64.max = 9223372036854775807 := by decide
  rw [h1, h2] at h
  exact h

end Go.Proofs.Ytkiankpmkglhcaa.J
