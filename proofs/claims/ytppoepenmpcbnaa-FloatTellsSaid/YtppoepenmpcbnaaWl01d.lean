/- Walks of the laws of layer 1: the whole number that a number is; FloatBack. -/
import Derived.Test.YtppoepenmpcbnaaWl01c
import Derived.Test.YtppoepenmpcbnaaF4
namespace Go.Proofs.Ytppoepenmpcbnaa.J
open Go Go.RowKit
set_option linter.unusedVariables false
set_option linter.unusedSimpArgs false
set_option maxRecDepth 10000

theorem findTrunc : Extern.find Try.f51 = some (Extern.MathFloor.toIntegral "math.archTrunc" .zero) := by kernel_rfl
theorem extTrunc (b : Nat) (w : World) : (callFunc 51 #[flt b]).run Try.prog w = ((Extern.MathFloor.toIntegral "math.archTrunc" .zero #[flt b]).run Try.prog w).andThen fun v w => .ok (.value v) w :=
  callFunc_ext Try.func51 (by kernel_rfl) (by kernel_rfl) (by kernel_rfl) findTrunc _ _
theorem class_nonnan {b : Nat} (h : ¬ 4 ≤ classN b) : isNan b = false := by
  rw [class_ge] at h
  rw [isNan_eq]; exact decide_eq_false (by omega)
theorem abs_most {b : Nat} (hn : isNan b = false) : (ford (b % 2 ^ 63) 4845873199050653696 == some .gt) = decide (mostR < rung b) := by
  rw [ford_gt (by rw [isNan_abs]; exact hn) (by decide), sr_abs, show sr 4845873199050653696 = 4845873199050653696 by decide, decide_eq_decide]
  unfold mostR; omega


theorem mtrunc_ok (b : Nat) (hn : isNan b = false) : Fn Try.prog 46 [.c (flt b)] (.c (flt (truncN b))) := by
  refine AC.of_J Try.func46 rfl Try.ntmps46 rfl fun w0 A0 => ?_
  refine J.seq ?_
  refine J.region_lit ?_
  refine JL.q rfl rfl rfl (QW.assign .const) ?_
  refine JL.nil ?_
  refine thenQ.n ?_
  refine J.seq ?_
  refine J.cond .const (fun c1 => ?_) (fun c1 => absurd c1 (by decide))
  refine J.seq ?_
  refine J.region_lit ?_
  refine JL.q rfl rfl rfl (QW.move (.tmp rfl)) ?_
  refine JL.arch extTrunc (.tmp rfl) rfl fun x4 h4 => ?_
  obtain rfl : x4 = truncN b := by rcases h4 with ⟨_, h⟩ | ⟨h, _⟩; exact h; rw [hn] at h; cases h
  refine JL.q rfl rfl rfl (QW.assign (.tmp rfl)) ?_
  refine JL.nil ?_
  refine thenQ.n ?_
  refine J.ret ?_
  refine thenQ.r ?_
  exact ⟨_, [], _, RetEv.one rfl (REv.tmp rfl (.refl _)), rfl, List.Perm.refl _, rfl, rfl⟩


theorem int_ok (b : Nat) (hb : b < 2 ^ 64) : Fn Try.prog 27 [.c (.int .u64 (b : Int))] (.tup [.c (.int .i64 (intV b)), .c (.int .i64 (intE b))]) := by
  refine AC.of_J Try.func27 rfl Try.ntmps27 rfl fun w0 A0 => ?_
  refine J.seq ?_
  refine J.region_lit ?_
  refine JL.q rfl rfl rfl (QW.assign .const) ?_
  refine JL.q rfl rfl rfl (QW.assign .const) ?_
  refine JL.nil ?_
  refine thenQ.n ?_
  refine J.seq ?_
  refine J.region_lit ?_
  refine JL.q rfl rfl rfl (QW.move (.tmp rfl)) ?_
  refine JL.q rfl rfl rfl (QW.ext (extFrom _) (.tmp rfl)) ?_
  refine JL.q rfl rfl rfl (QW.assign (.tmp rfl)) ?_
  refine JL.nil ?_
  refine thenQ.n ?_
  refine J.seq ?_
  refine J.block ?_
  refine J.seq ?_
  refine J.region_lit ?_
  refine JL.q rfl rfl rfl (QW.move (.tmp rfl)) ?_
  refine JL.q rfl rfl rfl (QW.call gofn12 (.cons (.tmp rfl) .nil) (by (apply class_ok <;> first | assumption | omega))) ?_
  refine JL.q rfl rfl rfl (QW.geq (.tmp rfl) .const) ?_
  refine JL.q rfl rfl rfl (QW.move (.tmp rfl)) ?_
  refine JL.g rfl rfl rfl rfl rfl (fun hg => (QW.move (.tmp rfl))) ?_
  refine JL.g rfl rfl rfl rfl rfl (fun hg => (QW.move (.tmp rfl))) ?_
  refine JL.g rfl rfl rfl rfl rfl (fun hg => QW.call gofn46 (.cons (.when rfl hg) .nil) (mtrunc_ok b (class_nonnan (by simp at hg; omega)))) ?_
  refine JL.g rfl rfl rfl rfl rfl (fun hg => (QW.neq_f (.when rfl hg) (.when rfl hg))) ?_
  refine JL.q rfl rfl rfl (QW.pick_or (.tmp rfl) (.tmp rfl)) ?_
  refine JL.q rfl rfl rfl (QW.assign (.tmp rfl)) ?_
  refine JL.nil ?_
  refine thenQ.n ?_
  refine J.cond (.tmp rfl) (fun c1 => ?_) (fun c1 => ?_)
  ·
    have hT : infR ≤ rung b ∨ ¬ isWhole b := by
      by_cases hf : rung b < infR
      · rw [trunc_whole hb hf] at c1
        have := class_fin.2 hf
        simp at c1
        rcases c1 with h | h
        · omega
        · exact .inr h
      · exact .inl (by omega)
    refine J.seq ?_
    refine J.region_lit ?_
    refine JL.q rfl rfl rfl (QW.assign .const) ?_
    refine JL.q rfl rfl rfl (QW.assign .const) ?_
    refine JL.nil ?_
    refine thenQ.n ?_
    refine J.ret ?_
    refine blkQ.r ?_
    refine thenQ.r ?_
    exact ⟨_, [], _, RetEv.two rfl (REv.tmp rfl (.refl _)) (REv.tmp rfl (.refl _)), rfl, List.Perm.refl _, by rw [(int_t hT).1, (int_t hT).2], rfl⟩
  ·
    have hc : ¬ 4 ≤ classN b := by intro h; rw [decide_eq_true (by omega), Bool.true_or] at c1; cases c1
    have hf : rung b < infR := by rw [class_ge] at hc; omega
    have hn := class_nonnan hc
    have hw : isWhole b := by
      rw [trunc_whole hb hf] at c1
      simp at c1
      exact c1.2
    refine J.seq ?_
    refine J.region_lit ?_
    refine JL.q rfl rfl rfl (QW.move (.tmp rfl)) ?_
    refine JL.q rfl rfl rfl (QW.call gofn34 (.cons (.tmp rfl) .nil) (by (apply abs_ok <;> first | assumption | omega))) ?_
    refine JL.q rfl rfl rfl (QW.gtr_f (.tmp rfl) .const) ?_
    refine JL.q rfl rfl rfl (QW.assign (.tmp rfl)) ?_
    refine JL.nil ?_
    refine thenQ.n ?_
    refine J.cond (.tmp rfl) (fun c2 => ?_) (fun c2 => ?_)
    ·
      rw [abs_most hn] at c2; simp at c2
      refine J.seq ?_
      refine J.region_lit ?_
      refine JL.q rfl rfl rfl (QW.assign .const) ?_
      refine JL.q rfl rfl rfl (QW.assign .const) ?_
      refine JL.nil ?_
      refine thenQ.n ?_
      refine J.ret ?_
      refine blkQ.r ?_
      refine thenQ.r ?_
      exact ⟨_, [], _, RetEv.two rfl (REv.tmp rfl (.refl _)) (REv.tmp rfl (.refl _)), rfl, List.Perm.refl _, by rw [(int_r hf hw c2).1, (int_r hf hw c2).2], rfl⟩
    ·
      rw [abs_most hn] at c2; simp at c2
      have hK := sv_fits (s := sgn b) (small_whole c2)
      refine J.skip ?_
      refine blkQ.n ?_
      refine thenQ.n ?_
      refine J.seq ?_
      refine J.region_lit ?_
      refine JL.q rfl rfl rfl (QW.move (.tmp rfl)) ?_
      refine JL.q rfl rfl rfl (QW.conv_fi us27 iu3 (.tmp rfl) (trunc_int hf) hK) ?_
      refine JL.q rfl rfl rfl (QW.assign (.tmp rfl)) ?_
      refine JL.q rfl rfl rfl (QW.assign .const) ?_
      refine JL.nil ?_
      refine thenQ.n ?_
      refine J.ret ?_
      exact ⟨_, [], _, RetEv.two rfl (REv.tmp rfl (.refl _)) (REv.tmp rfl (.refl _)), rfl, List.Perm.refl _, by rw [(int_o hf hw c2).1, (int_o hf hw c2).2], rfl⟩

theorem ofN_lt {n : Int} : ofN n < 2 ^ 64 := by
  unfold ofN
  split
  · decide
  · exact nearest_lt


theorem floatBack_ok (n : Int) (h : -9223372036854775808 ≤ n ∧ n ≤ 9223372036854775807) : Fn Try.prog 9 [.c (.int .i64 n)] (.c (.bool true)) := by
  have hol := @ofN_lt n
  refine AC.of_J Try.func9 rfl Try.ntmps9 rfl fun w0 A0 => ?_
  refine J.seq ?_
  refine J.region_lit ?_
  refine JL.q rfl rfl rfl (QW.assign .const) ?_
  refine JL.nil ?_
  refine thenQ.n ?_
  refine J.seq ?_
  refine J.seq ?_
  refine J.region_lit ?_
  refine JL.q rfl rfl rfl (QW.call gofn11 .nil (by (apply alive01_ok <;> first | assumption | omega))) ?_
  refine JL.q rfl rfl rfl (QW.not (.tmp rfl)) ?_
  refine JL.nil ?_
  refine thenQ.n ?_
  refine J.cond (.tmp rfl) (fun c1 => absurd c1 (by decide)) (fun c1 => ?_)
  refine J.skip ?_
  refine thenQ.n ?_
  refine J.seq ?_
  refine J.region_lit ?_
  refine JL.q rfl rfl rfl (QW.move (.tmp rfl)) ?_
  refine JL.q rfl rfl rfl (QW.call gofn25 (.cons (.tmp rfl) .nil) (by (apply ofInt_ok <;> first | assumption | omega))) ?_
  refine JL.q rfl rfl rfl (QW.move (.tmp rfl)) ?_
  refine JL.q rfl rfl rfl (QW.extract (.tmp rfl) rfl) ?_
  refine JL.q rfl rfl rfl (QW.extract (.tmp rfl) rfl) ?_
  refine JL.q rfl rfl rfl (QW.assign (.tmp rfl)) ?_
  refine JL.q rfl rfl rfl (QW.assign (.tmp rfl)) ?_
  refine JL.nil ?_
  refine thenQ.n ?_
  refine J.seq ?_
  refine J.seq ?_
  refine J.region_lit ?_
  refine JL.q rfl rfl rfl (QW.move (.tmp rfl)) ?_
  refine JL.q rfl rfl rfl (QW.call gofn26 (.cons (.tmp rfl) .nil) (by (apply num01_ok <;> first | assumption | omega))) ?_
  refine JL.q rfl rfl rfl (QW.neq (.tmp rfl) .const) ?_
  refine JL.nil ?_
  refine thenQ.n ?_
  refine J.cond (.tmp rfl) (fun c2 => ?_) (fun c2 => ?_)
  ·
    simp [ofE] at c2
    refine J.seq ?_
    refine J.region_lit ?_
    refine JL.q rfl rfl rfl (QW.move (.tmp rfl)) ?_
    refine JL.q rfl rfl rfl (QW.eql (.tmp rfl) .const) ?_
    refine JL.q rfl rfl rfl (QW.move (.tmp rfl)) ?_
    refine JL.g rfl rfl rfl rfl rfl (fun hg => (QW.move (.tmp rfl))) ?_
    refine JL.g rfl rfl rfl rfl rfl (fun hg => (QW.lss (.when rfl hg) .const)) ?_
    refine JL.g rfl rfl rfl rfl rfl (fun hg => (QW.move (.when rfl hg))) ?_
    refine JL.gg rfl rfl rfl rfl rfl (fun hg => (QW.move (.tmp rfl))) ?_
    refine JL.gg rfl rfl rfl rfl rfl (fun hg => (QW.gtr (.when rfl hg) .const)) ?_
    refine JL.g rfl rfl rfl rfl rfl (fun hg => (by first | exact QW.pick_or (.when rfl hg) (.tmp rfl) | exact QW.pick_or2 hg (.when rfl hg) (.tmp rfl))) ?_
    refine JL.q rfl rfl rfl (QW.pick_and (.tmp rfl) (.tmp rfl)) ?_
    refine JL.q rfl rfl rfl (QW.assign (.tmp rfl)) ?_
    refine JL.nil ?_
    refine thenQ.n ?_
    refine J.ret ?_
    refine thenQ.r ?_
    exact ⟨_, [], _, RetEv.one rfl (REv.tmp rfl (.refl _)), rfl, List.Perm.refl _, ret_bool (by rw [show ofN n = 0 from if_pos (by omega)]; simp; omega), rfl⟩
  ·
    have hr : -9007199254740992 ≤ n ∧ n ≤ 9007199254740992 := by
      unfold ofE at c2
      split at c2 <;> simp at c2
      omega
    have hof : ofN n = FloatKind.f64.nearest n := by unfold ofN nearN; rw [if_neg (by omega)]
    obtain ⟨b1, b2, b3, b4⟩ := near_back hr
    refine J.skip ?_
    refine thenQ.n ?_
    refine J.seq ?_
    refine J.region_lit ?_
    refine JL.q rfl rfl rfl (QW.move (.tmp rfl)) ?_
    refine JL.q rfl rfl rfl (QW.call gofn27 (.cons (.tmp rfl) .nil) (by (apply int_ok <;> first | assumption | omega))) ?_
    refine JL.q rfl rfl rfl (QW.move (.tmp rfl)) ?_
    refine JL.q rfl rfl rfl (QW.extract (.tmp rfl) rfl) ?_
    refine JL.q rfl rfl rfl (QW.extract (.tmp rfl) rfl) ?_
    refine JL.q rfl rfl rfl (QW.assign (.tmp rfl)) ?_
    refine JL.q rfl rfl rfl (QW.assign (.tmp rfl)) ?_
    refine JL.nil ?_
    refine thenQ.n ?_
    refine J.seq ?_
    refine J.seq ?_
    refine J.region_lit ?_
    refine JL.q rfl rfl rfl (QW.move (.tmp rfl)) ?_
    refine JL.q rfl rfl rfl (QW.call gofn26 (.cons (.tmp rfl) .nil) (by (apply num01_ok <;> first | assumption | omega))) ?_
    refine JL.q rfl rfl rfl (QW.neq (.tmp rfl) .const) ?_
    refine JL.q rfl rfl rfl (QW.move (.tmp rfl)) ?_
    refine JL.g rfl rfl rfl rfl rfl (fun hg => (QW.move (.tmp rfl))) ?_
    refine JL.g rfl rfl rfl rfl rfl (fun hg => (QW.move (.tmp rfl))) ?_
    refine JL.g rfl rfl rfl rfl rfl (fun hg => (QW.neq (.when rfl hg) (.when rfl hg))) ?_
    refine JL.q rfl rfl rfl (QW.pick_or (.tmp rfl) (.tmp rfl)) ?_
    refine JL.q rfl rfl rfl (QW.move (.tmp rfl)) ?_
    refine JL.g rfl rfl rfl rfl rfl (fun hg => (QW.move (.tmp rfl))) ?_
    refine JL.g rfl rfl rfl rfl rfl (fun hg => (QW.call gofn24 (.cons (.when rfl hg) .nil) (by (apply floor_ok <;> first | assumption | omega)))) ?_
    refine JL.g rfl rfl rfl rfl rfl (fun hg => (QW.move (.tmp rfl))) ?_
    refine JL.g rfl rfl rfl rfl rfl (fun hg => (QW.neq (.when rfl hg) (.when rfl hg))) ?_
    refine JL.q rfl rfl rfl (QW.pick_or (.tmp rfl) (.tmp rfl)) ?_
    refine JL.nil ?_
    refine thenQ.n ?_
    refine J.cond (.tmp rfl) (fun c3 => absurd c3 (by rw [hof, b1, b2, b3]; simp)) (fun c3 => ?_)
    refine J.skip ?_
    refine thenQ.n ?_
    refine J.seq ?_
    refine J.seq ?_
    refine J.region_lit ?_
    refine JL.q rfl rfl rfl (QW.move (.tmp rfl)) ?_
    refine JL.q rfl rfl rfl (QW.eql (.tmp rfl) .const) ?_
    refine JL.nil ?_
    refine thenQ.n ?_
    refine J.cond (.tmp rfl) (fun c4 => ?_) (fun c4 => ?_)
    ·
      simp at c4
      refine J.seq ?_
      refine J.region_lit ?_
      refine JL.q rfl rfl rfl (QW.assign .const) ?_
      refine JL.nil ?_
      refine thenQ.n ?_
      refine J.ret ?_
      refine thenQ.r ?_
      exact ⟨_, [], _, RetEv.one rfl (REv.tmp rfl (.refl _)), rfl, List.Perm.refl _, rfl, rfl⟩
    ·
      simp at c4
      refine J.skip ?_
      refine thenQ.n ?_
      refine J.seq ?_
      refine J.region_lit ?_
      refine JL.q rfl rfl rfl (QW.move (.tmp rfl)) ?_
      refine JL.q rfl rfl rfl (QW.add (.tmp rfl) .const (by first | exact w64n (by first | rfl | omega | (simp; done)) (by omega) | exact w64 (by omega) | rfl)) ?_
      refine JL.q rfl rfl rfl (QW.call gofn25 (.cons (.tmp rfl) .nil) (by (apply ofInt_ok <;> first | assumption | omega))) ?_
      refine JL.q rfl rfl rfl (QW.move (.tmp rfl)) ?_
      refine JL.q rfl rfl rfl (QW.extract (.tmp rfl) rfl) ?_
      refine JL.q rfl rfl rfl (QW.extract (.tmp rfl) rfl) ?_
      refine JL.q rfl rfl rfl (QW.assign (.tmp rfl)) ?_
      refine JL.q rfl rfl rfl (QW.assign (.tmp rfl)) ?_
      refine JL.nil ?_
      refine thenQ.n ?_
      refine J.seq ?_
      refine J.region_lit ?_
      refine JL.q rfl rfl rfl (QW.move (.tmp rfl)) ?_
      refine JL.q rfl rfl rfl (QW.call gofn26 (.cons (.tmp rfl) .nil) (by (apply num01_ok <;> first | assumption | omega))) ?_
      refine JL.q rfl rfl rfl (QW.eql (.tmp rfl) .const) ?_
      refine JL.q rfl rfl rfl (QW.move (.tmp rfl)) ?_
      refine JL.g rfl rfl rfl rfl rfl (fun hg => (QW.move (.tmp rfl))) ?_
      refine JL.g rfl rfl rfl rfl rfl (fun hg => (QW.call gofn16 (.cons (.when rfl hg) (.cons (by first | exact .const | exact .func | exact Ev.le .const (by exact .nil _ _ _)) .nil)) (by (apply add_ok <;> first | assumption | omega)))) ?_
      refine JL.g rfl rfl rfl rfl rfl (fun hg => (QW.move (.tmp rfl))) ?_
      refine JL.g rfl rfl rfl rfl rfl (fun hg => (QW.eql (.when rfl hg) (.when rfl hg))) ?_
      refine JL.q rfl rfl rfl (QW.pick_and (.tmp rfl) (.tmp rfl)) ?_
      refine JL.q rfl rfl rfl (QW.assign (.tmp rfl)) ?_
      refine JL.nil ?_
      refine thenQ.n ?_
      refine J.ret ?_
      exact ⟨_, [], _, RetEv.one rfl (REv.tmp rfl (.refl _)), rfl, List.Perm.refl _, ret_bool (by rw [show ofN (n + 1) = FloatKind.f64.nearest (n + 1) from if_neg (by omega), hof, add_one (by omega), ofE, if_neg (by omega)]; simp), rfl⟩

end Go.Proofs.Ytppoepenmpcbnaa.J
