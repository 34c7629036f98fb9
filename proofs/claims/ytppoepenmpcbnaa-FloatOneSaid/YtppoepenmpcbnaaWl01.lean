/- Walks of the laws of layer 1: FloatSteps, FloatOrders, FloatTurns, FloatOne. -/
import Derived.Test.YtppoepenmpcbnaaWf2
import Derived.Test.YtppoepenmpcbnaaFacts
namespace Go.Proofs.Ytppoepenmpcbnaa.J
open Go Go.RowKit
set_option linter.unusedVariables false
set_option linter.unusedSimpArgs false
set_option maxRecDepth 10000
set_option maxHeartbeats 4000000

theorem class_fin {b : Nat} : classN b < 4 ↔ rung b < infR := by
  unfold classN
  rw [isNan_eq]
  by_cases h1 : infR < rung b
  · rw [if_pos (by simpa using h1)]; omega
  · rw [if_neg (by simpa using h1)]
    by_cases h2 : rung b = infR
    · rw [if_pos h2]; omega
    · rw [if_neg h2]
      (repeat' split) <;> omega
theorem class_nan {b : Nat} : classN b = 5 ↔ isNan b = true := by
  unfold classN
  cases isNan b with
  | true => simp
  | false =>
    simp only [Bool.false_eq_true, if_false, iff_false]
    (repeat' split) <;> omega
theorem steps_pure {b n : Nat} (hb : b < 2 ^ 64) (hf : rung b < infR) (hz : b ≠ 2 ^ 63) (hn : n = if 2 ^ 63 ≤ b then b - 1 else b + 1) :
    IntKind.u64.wrap ((orderN n : Int) - (orderN b : Int)) = 1 := by
  have h1 : isNan b = false := by rw [isNan_eq]; exact decide_eq_false (by omega)
  have h2 : isNan n = false := by
    rw [isNan_eq]; apply decide_eq_false
    subst hn
    unfold rung infR at *
    split <;> omega
  unfold orderN
  rw [h1, h2]
  simp only [Bool.false_eq_true, if_false]
  unfold rung infR at hf
  by_cases h : 2 ^ 63 ≤ b
  · rw [if_pos h] at hn
    rw [if_pos (by omega), if_pos h]
    rw [wu64 (by omega)]; omega
  · rw [if_neg h] at hn
    rw [if_neg (by omega), if_neg h]
    rw [wu64 (by omega)]; omega


theorem floatSteps_ok (b : Nat) (hb : b < 2 ^ 64) : Fn Try.prog 3 [.c (.int .u64 (b : Int))] (.c (.bool true)) := by
  refine AC.of_J Try.func3 rfl Try.ntmps3 rfl fun w0 A0 => ?_
  refine J.seq ?_
  refine J.region_lit ?_
  refine JL.q rfl rfl rfl (QW.assign .const) ?_
  refine JL.nil ?_
  refine thenQ.n ?_
  refine J.seq ?_
  refine J.seq ?_
  refine J.region_lit ?_
  refine JL.q rfl rfl rfl (QW.call gofn11 .nil (by (apply alive01_ok <;> first | assumption | omega))) ?_
  refine JL.q rfl rfl rfl (QW.not (.tmp rfl)) ?_
  refine JL.nil ?_
  refine thenQ.n ?_
  refine J.cond (.tmp rfl) (fun c1 => absurd c1 (by decide)) (fun c1 => ?_)
  refine J.skip ?_
  refine thenQ.n ?_
  refine J.seq ?_
  refine J.seq ?_
  refine J.region_lit ?_
  refine JL.q rfl rfl rfl (QW.move (.tmp rfl)) ?_
  refine JL.q rfl rfl rfl (QW.call gofn12 (.cons (.tmp rfl) .nil) (by (apply class_ok <;> first | assumption | omega))) ?_
  refine JL.q rfl rfl rfl (QW.geq (.tmp rfl) .const) ?_
  refine JL.q rfl rfl rfl (QW.move (.tmp rfl)) ?_
  refine JL.g rfl rfl rfl rfl rfl (fun hg => (QW.move (.tmp rfl))) ?_
  refine JL.g rfl rfl rfl rfl rfl (fun hg => (QW.eql (.when rfl hg) .const)) ?_
  refine JL.q rfl rfl rfl (QW.pick_or (.tmp rfl) (.tmp rfl)) ?_
  refine JL.nil ?_
  refine thenQ.n ?_
  refine J.cond (.tmp rfl) (fun c2 => ?_) (fun c2 => ?_)
  · skip
    refine J.seq ?_
    refine J.region_lit ?_
    refine JL.q rfl rfl rfl (QW.call gofn13 (.cons (by first | exact .const | exact .func | exact Ev.le .const (by exact .nil _ _ _)) .nil) (order_ok 0 (by decide))) ?_
    refine JL.q rfl rfl rfl (QW.call gofn13 (.cons (by first | exact .const | exact .func | exact Ev.le .const (by exact .nil _ _ _)) .nil) (order_ok 9223372036854775808 (by decide))) ?_
    refine JL.q rfl rfl rfl (QW.sub (.tmp rfl) (.tmp rfl) (by first | exact wu64 (by omega) | rfl)) ?_
    refine JL.q rfl rfl rfl (QW.eql (.tmp rfl) .const) ?_
    refine JL.q rfl rfl rfl (QW.assign (.tmp rfl)) ?_
    refine JL.nil ?_
    refine thenQ.n ?_
    refine J.ret ?_
    refine thenQ.r ?_
    exact ⟨_, [], _, RetEv.one rfl (REv.tmp rfl (.refl _)), rfl, List.Perm.refl _, ret_bool (by decide +kernel), rfl⟩
  ·
    simp at c2
    have hf : rung b < infR := class_fin.1 c2.1
    have hz : b ≠ 2 ^ 63 := by omega
    have hlt : b + 1 < 2 ^ 64 := by unfold rung infR at hf; omega
    refine J.skip ?_
    refine thenQ.n ?_
    refine J.seq ?_
    refine J.region_lit ?_
    refine JL.q rfl rfl rfl (QW.move (.tmp rfl)) ?_
    refine JL.q rfl rfl rfl (QW.add (c := ((b + 1 : Nat) : Int)) (.tmp rfl) .const (wu64 (by omega))) ?_
    refine JL.q rfl rfl rfl (QW.assign (.tmp rfl)) ?_
    refine JL.nil ?_
    refine thenQ.n ?_
    refine J.seq ?_
    refine J.seq ?_
    refine J.region_lit ?_
    refine JL.q rfl rfl rfl (QW.move (.tmp rfl)) ?_
    refine JL.q rfl rfl rfl (QW.geq (.tmp rfl) .const) ?_
    refine JL.nil ?_
    refine thenQ.n ?_
    refine J.cond (.tmp rfl) (fun c3 => ?_) (fun c3 => ?_)
    ·
      simp at c3
      refine J.region_lit ?_
      refine JL.q rfl rfl rfl (QW.move (.tmp rfl)) ?_
      refine JL.q rfl rfl rfl (QW.sub (c := ((b - 1 : Nat) : Int)) (.tmp rfl) .const (by rw [wu64 (by omega)]; omega)) ?_
      refine JL.q rfl rfl rfl (QW.assign (.tmp rfl)) ?_
      refine JL.nil ?_
      refine thenQ.n ?_
      refine J.seq ?_
      refine J.region_lit ?_
      refine JL.q rfl rfl rfl (QW.move (.tmp rfl)) ?_
      refine JL.q rfl rfl rfl (QW.call gofn13 (.cons (.tmp rfl) .nil) (by (apply order_ok <;> first | assumption | omega))) ?_
      refine JL.q rfl rfl rfl (QW.move (.tmp rfl)) ?_
      refine JL.q rfl rfl rfl (QW.call gofn13 (.cons (.tmp rfl) .nil) (by (apply order_ok <;> first | assumption | omega))) ?_
      refine JL.q rfl rfl rfl (QW.sub (.tmp rfl) (.tmp rfl) (by first | exact wu64 (by omega) | rfl)) ?_
      refine JL.q rfl rfl rfl (QW.eql (.tmp rfl) .const) ?_
      refine JL.q rfl rfl rfl (QW.assign (.tmp rfl)) ?_
      refine JL.nil ?_
      refine thenQ.n ?_
      refine J.ret ?_
      exact ⟨_, [], _, RetEv.one rfl (REv.tmp rfl (.refl _)), rfl, List.Perm.refl _, ret_bool (by rw [steps_pure hb hf hz (by rw [if_pos (by omega)])]; rfl), rfl⟩
    ·
      simp at c3
      refine J.skip ?_
      refine thenQ.n ?_
      refine J.seq ?_
      refine J.region_lit ?_
      refine JL.q rfl rfl rfl (QW.move (.tmp rfl)) ?_
      refine JL.q rfl rfl rfl (QW.call gofn13 (.cons (.tmp rfl) .nil) (by (apply order_ok <;> first | assumption | omega))) ?_
      refine JL.q rfl rfl rfl (QW.move (.tmp rfl)) ?_
      refine JL.q rfl rfl rfl (QW.call gofn13 (.cons (.tmp rfl) .nil) (by (apply order_ok <;> first | assumption | omega))) ?_
      refine JL.q rfl rfl rfl (QW.sub (.tmp rfl) (.tmp rfl) (by first | exact wu64 (by omega) | rfl)) ?_
      refine JL.q rfl rfl rfl (QW.eql (.tmp rfl) .const) ?_
      refine JL.q rfl rfl rfl (QW.assign (.tmp rfl)) ?_
      refine JL.nil ?_
      refine thenQ.n ?_
      refine J.ret ?_
      exact ⟨_, [], _, RetEv.one rfl (REv.tmp rfl (.refl _)), rfl, List.Perm.refl _, ret_bool (by rw [steps_pure hb hf hz (by rw [if_neg (by omega)])]; rfl), rfl⟩

end Go.Proofs.Ytppoepenmpcbnaa.J
