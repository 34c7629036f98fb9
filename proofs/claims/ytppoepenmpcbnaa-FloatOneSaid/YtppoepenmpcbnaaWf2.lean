/- Walks: numbers (the package float): classes, order, operations, floors; the layer's own example. -/
import Derived.Test.YtppoepenmpcbnaaF1
import Derived.Test.YtppoepenmpcbnaaWf1
import Derived.Test.YtppoepenmpcbnaaFacts
namespace Go.Proofs.Ytppoepenmpcbnaa.J
open Go Go.RowKit
set_option linter.unusedVariables false
set_option linter.unusedSimpArgs false
set_option maxRecDepth 10000
set_option maxHeartbeats 4000000


theorem abs_ok (b : Nat) (hb : b < 2 ^ 64) : Fn Try.prog 34 [.c (flt b)] (.c (flt (b % 2 ^ 63))) := by
  refine AC.of_J Try.func34 rfl Try.ntmps34 rfl fun w0 A0 => ?_
  refine J.seq ?_
  refine J.region_lit ?_
  refine JL.q rfl rfl rfl (QW.assign .const) ?_
  refine JL.nil ?_
  refine thenQ.n ?_
  refine J.seq ?_
  refine J.region_lit ?_
  refine JL.q rfl rfl rfl (QW.move (.tmp rfl)) ?_
  refine JL.q rfl rfl rfl (QW.ext (extBits _) (.tmp rfl)) ?_
  refine JL.q rfl rfl rfl (QW.andNot (.tmp rfl) .const (absbits b hb)) ?_
  refine JL.q rfl rfl rfl (QW.ext (extFrom _) (.tmp rfl)) ?_
  refine JL.q rfl rfl rfl (QW.assign (.tmp rfl)) ?_
  refine JL.nil ?_
  refine thenQ.n ?_
  refine J.ret ?_
  exact ⟨_, [], _, RetEv.one rfl (REv.tmp rfl (.refl _)), rfl, List.Perm.refl _, rfl, rfl⟩


theorem isinf_ok (b : Nat) (hb : b < 2 ^ 64) : Fn Try.prog 35 [.c (flt b), .c (.int .i64 0)] (.c (.bool (decide (rung b = infR)))) := by
  refine AC.of_J Try.func35 rfl Try.ntmps35 rfl fun w0 A0 => ?_
  refine J.seq ?_
  refine J.region_lit ?_
  refine JL.q rfl rfl rfl (QW.assign .const) ?_
  refine JL.nil ?_
  refine thenQ.n ?_
  refine J.seq ?_
  refine J.seq ?_
  refine J.region_lit ?_
  refine JL.q rfl rfl rfl (QW.move (.tmp rfl)) ?_
  refine JL.q rfl rfl rfl (QW.eql (.tmp rfl) .const) ?_
  refine JL.nil ?_
  refine thenQ.n ?_
  refine J.cond (.tmp rfl) (fun c1 => ?_) (fun c1 => absurd c1 (by decide))
  refine J.region_lit ?_
  refine JL.q rfl rfl rfl (QW.move (.tmp rfl)) ?_
  refine JL.q rfl rfl rfl (QW.call gofn34 (.cons (.tmp rfl) .nil) (by (apply abs_ok <;> first | assumption | omega))) ?_
  refine JL.q rfl rfl rfl (QW.assign (.tmp rfl)) ?_
  refine JL.nil ?_
  refine thenQ.n ?_
  refine J.seq ?_
  refine J.region_lit ?_
  refine JL.q rfl rfl rfl (QW.move (.tmp rfl)) ?_
  refine JL.q rfl rfl rfl (QW.gtr_f (.tmp rfl) .const) ?_
  refine JL.q rfl rfl rfl (QW.assign (.tmp rfl)) ?_
  refine JL.nil ?_
  refine thenQ.n ?_
  refine J.ret ?_
  exact ⟨_, [], _, RetEv.one rfl (REv.tmp rfl (.refl _)), rfl, List.Perm.refl _, by
      by_cases hn : isNan b = true
      · rw [ford_nanL (by rw [isNan_abs]; exact hn)]
        rw [isNan_eq] at hn; simp at hn
        congr 3; simp; omega
      · rw [ford_gt (by rw [isNan_abs]; simpa using hn) (by decide), sr_abs]
        rw [isNan_eq] at hn; simp at hn
        congr 3
        rw [show sr 9218868437227405311 = 9218868437227405311 by decide]
        simp; unfold infR at *; omega, rfl⟩


theorem signbit_ok (b : Nat) (hb : b < 2 ^ 64) : Fn Try.prog 36 [.c (flt b)] (.c (.bool (decide (2 ^ 63 ≤ b)))) := by
  refine AC.of_J Try.func36 rfl Try.ntmps36 rfl fun w0 A0 => ?_
  refine J.seq ?_
  refine J.region_lit ?_
  refine JL.q rfl rfl rfl (QW.assign .const) ?_
  refine JL.nil ?_
  refine thenQ.n ?_
  refine J.seq ?_
  refine J.region_lit ?_
  refine JL.q rfl rfl rfl (QW.move (.tmp rfl)) ?_
  refine JL.q rfl rfl rfl (QW.ext (extBits _) (.tmp rfl)) ?_
  refine JL.q rfl rfl rfl (QW.conv_int us22 iu2 (.tmp rfl) rfl) ?_
  refine JL.q rfl rfl rfl (QW.lss (.tmp rfl) .const) ?_
  refine JL.q rfl rfl rfl (QW.assign (.tmp rfl)) ?_
  refine JL.nil ?_
  refine thenQ.n ?_
  refine J.ret ?_
  exact ⟨_, [], _, RetEv.one rfl (REv.tmp rfl (.refl _)), rfl, List.Perm.refl _, by
      congr 3
      rw [decide_eq_decide]
      by_cases h : 2 ^ 63 ≤ b
      · rw [wrap_i64_hi h hb]; omega
      · rw [w64 (by omega)]; omega, rfl⟩


theorem class_ok (b : Nat) (hb : b < 2 ^ 64) : Fn Try.prog 12 [.c (.int .u64 (b : Int))] (.c (.int .i64 (classN b))) := by
  refine AC.of_J Try.func12 rfl Try.ntmps12 rfl fun w0 A0 => ?_
  refine J.seq ?_
  refine J.region_lit ?_
  refine JL.q rfl rfl rfl (QW.assign .const) ?_
  refine JL.nil ?_
  refine thenQ.n ?_
  refine J.seq ?_
  refine J.region_lit ?_
  refine JL.q rfl rfl rfl (QW.move (.tmp rfl)) ?_
  refine JL.q rfl rfl rfl (QW.ext (extFrom _) (.tmp rfl)) ?_
  refine JL.q rfl rfl rfl (QW.assign (.tmp rfl)) ?_
  refine JL.nil ?_
  refine thenQ.n ?_
  refine J.seq ?_
  refine J.region_lit ?_
  refine JL.q rfl rfl rfl (QW.move (.tmp rfl)) ?_
  refine JL.q rfl rfl rfl (QW.call gofn34 (.cons (.tmp rfl) .nil) (by (apply abs_ok <;> first | assumption | omega))) ?_
  refine JL.q rfl rfl rfl (QW.assign (.tmp rfl)) ?_
  refine JL.nil ?_
  refine thenQ.n ?_
  refine J.seq ?_
  refine J.block ?_
  refine J.seq ?_
  refine J.region_lit ?_
  refine JL.q rfl rfl rfl (QW.move (.tmp rfl)) ?_
  refine JL.q rfl rfl rfl (QW.move (.tmp rfl)) ?_
  refine JL.q rfl rfl rfl (QW.neq_f (.tmp rfl) (.tmp rfl)) ?_
  refine JL.q rfl rfl rfl (QW.assign (.tmp rfl)) ?_
  refine JL.nil ?_
  refine thenQ.n ?_
  refine J.cond (.tmp rfl) (fun c1 => ?_) (fun c1 => ?_)
  ·
    rw [fneq_self] at c1
    refine J.seq ?_
    refine J.region_lit ?_
    refine JL.q rfl rfl rfl (QW.assign .const) ?_
    refine JL.nil ?_
    refine thenQ.n ?_
    refine J.ret ?_
    refine blkQ.r ?_
    refine thenQ.r ?_
    exact ⟨_, [], _, RetEv.one rfl (REv.tmp rfl (.refl _)), rfl, List.Perm.refl _, by simp [classN, c1], rfl⟩
  ·
    rw [fneq_self] at c1
    have ha : isNan (b % 2 ^ 63) = false := by rw [isNan_abs]; exact c1
    refine J.seq ?_
    refine J.region_lit ?_
    refine JL.q rfl rfl rfl (QW.move (.tmp rfl)) ?_
    refine JL.q rfl rfl rfl (QW.call gofn35 (.cons (.tmp rfl) (.cons (by first | exact .const | exact .func | exact Ev.le .const (by exact .nil _ _ _)) .nil)) (by (apply isinf_ok <;> first | assumption | omega))) ?_
    refine JL.q rfl rfl rfl (QW.assign (.tmp rfl)) ?_
    refine JL.nil ?_
    refine thenQ.n ?_
    refine J.cond (.tmp rfl) (fun c2 => ?_) (fun c2 => ?_)
    ·
      simp at c2
      refine J.seq ?_
      refine J.region_lit ?_
      refine JL.q rfl rfl rfl (QW.assign .const) ?_
      refine JL.nil ?_
      refine thenQ.n ?_
      refine J.ret ?_
      refine blkQ.r ?_
      refine thenQ.r ?_
      exact ⟨_, [], _, RetEv.one rfl (REv.tmp rfl (.refl _)), rfl, List.Perm.refl _, by simp [classN, c1, c2], rfl⟩
    ·
      simp at c2
      refine J.seq ?_
      refine J.region_lit ?_
      refine JL.q rfl rfl rfl (QW.move (.tmp rfl)) ?_
      refine JL.q rfl rfl rfl (QW.geq_f (.tmp rfl) .const) ?_
      refine JL.q rfl rfl rfl (QW.assign (.tmp rfl)) ?_
      refine JL.nil ?_
      refine thenQ.n ?_
      refine J.cond (.tmp rfl) (fun c3 => ?_) (fun c3 => ?_)
      ·
        rw [ford_gt ha (by decide), ford_eql ha (by decide), sr_abs, show sr 4503599627370496 = 4503599627370496 by decide] at c3; simp at c3
        refine J.seq ?_
        refine J.region_lit ?_
        refine JL.q rfl rfl rfl (QW.assign .const) ?_
        refine JL.nil ?_
        refine thenQ.n ?_
        refine J.ret ?_
        refine blkQ.r ?_
        refine thenQ.r ?_
        exact ⟨_, [], _, RetEv.one rfl (REv.tmp rfl (.refl _)), rfl, List.Perm.refl _, by unfold classN; rw [c1, if_neg (by decide), if_neg c2, if_pos (by omega)], rfl⟩
      ·
        rw [ford_gt ha (by decide), ford_eql ha (by decide), sr_abs, show sr 4503599627370496 = 4503599627370496 by decide] at c3; simp at c3
        refine J.seq ?_
        refine J.region_lit ?_
        refine JL.q rfl rfl rfl (QW.move (.tmp rfl)) ?_
        refine JL.q rfl rfl rfl (QW.gtr_f (.tmp rfl) .const) ?_
        refine JL.q rfl rfl rfl (QW.assign (.tmp rfl)) ?_
        refine JL.nil ?_
        refine thenQ.n ?_
        refine J.cond (.tmp rfl) (fun c4 => ?_) (fun c4 => ?_)
        ·
          rw [ford_gt ha (by decide), sr_abs, show sr 0 = 0 by decide] at c4; simp at c4
          refine J.seq ?_
          refine J.region_lit ?_
          refine JL.q rfl rfl rfl (QW.assign .const) ?_
          refine JL.nil ?_
          refine thenQ.n ?_
          refine J.ret ?_
          refine blkQ.r ?_
          refine thenQ.r ?_
          exact ⟨_, [], _, RetEv.one rfl (REv.tmp rfl (.refl _)), rfl, List.Perm.refl _, by unfold classN; rw [c1, if_neg (by decide), if_neg c2, if_neg (by omega), if_pos (by omega)], rfl⟩
        ·
          rw [ford_gt ha (by decide), sr_abs, show sr 0 = 0 by decide] at c4; simp at c4
          refine J.seq ?_
          refine J.region_lit ?_
          refine JL.q rfl rfl rfl (QW.move (.tmp rfl)) ?_
          refine JL.q rfl rfl rfl (QW.call gofn36 (.cons (.tmp rfl) .nil) (by (apply signbit_ok <;> first | assumption | omega))) ?_
          refine JL.q rfl rfl rfl (QW.assign (.tmp rfl)) ?_
          refine JL.nil ?_
          refine thenQ.n ?_
          refine J.cond (.tmp rfl) (fun c5 => ?_) (fun c5 => ?_)
          ·
            simp at c5
            refine J.seq ?_
            refine J.region_lit ?_
            refine JL.q rfl rfl rfl (QW.assign .const) ?_
            refine JL.nil ?_
            refine thenQ.n ?_
            refine J.ret ?_
            refine blkQ.r ?_
            refine thenQ.r ?_
            exact ⟨_, [], _, RetEv.one rfl (REv.tmp rfl (.refl _)), rfl, List.Perm.refl _, by unfold classN; rw [c1, if_neg (by decide), if_neg c2, if_neg (by omega), if_neg (by omega), if_pos (by omega)], rfl⟩
          ·
            simp at c5
            refine J.skip ?_
            refine blkQ.n ?_
            refine thenQ.n ?_
            refine J.seq ?_
            refine J.region_lit ?_
            refine JL.q rfl rfl rfl (QW.assign .const) ?_
            refine JL.nil ?_
            refine thenQ.n ?_
            refine J.ret ?_
            exact ⟨_, [], _, RetEv.one rfl (REv.tmp rfl (.refl _)), rfl, List.Perm.refl _, by unfold classN; rw [c1, if_neg (by decide), if_neg c2, if_neg (by omega), if_neg (by omega), if_neg (by omega)], rfl⟩


theorem order_ok (b : Nat) (hb : b < 2 ^ 64) : Fn Try.prog 13 [.c (.int .u64 (b : Int))] (.c (.int .u64 (orderN b : Int))) := by
  refine AC.of_J Try.func13 rfl Try.ntmps13 rfl fun w0 A0 => ?_
  refine J.seq ?_
  refine J.region_lit ?_
  refine JL.q rfl rfl rfl (QW.assign .const) ?_
  refine JL.nil ?_
  refine thenQ.n ?_
  refine J.seq ?_
  refine J.seq ?_
  refine J.region_lit ?_
  refine JL.q rfl rfl rfl (QW.move (.tmp rfl)) ?_
  refine JL.q rfl rfl rfl (QW.ext (extFrom _) (.tmp rfl)) ?_
  refine JL.q rfl rfl rfl (QW.assign (.tmp rfl)) ?_
  refine JL.nil ?_
  refine thenQ.n ?_
  refine J.seq ?_
  refine J.region_lit ?_
  refine JL.q rfl rfl rfl (QW.move (.tmp rfl)) ?_
  refine JL.q rfl rfl rfl (QW.move (.tmp rfl)) ?_
  refine JL.q rfl rfl rfl (QW.neq_f (.tmp rfl) (.tmp rfl)) ?_
  refine JL.nil ?_
  refine thenQ.n ?_
  refine J.cond (.tmp rfl) (fun c1 => ?_) (fun c1 => ?_)
  ·
    rw [fneq_self] at c1
    refine J.seq ?_
    refine J.region_lit ?_
    refine JL.q rfl rfl rfl (QW.assign .const) ?_
    refine JL.nil ?_
    refine thenQ.n ?_
    refine J.ret ?_
    refine thenQ.r ?_
    exact ⟨_, [], _, RetEv.one rfl (REv.tmp rfl (.refl _)), rfl, List.Perm.refl _, by simp [orderN, c1], rfl⟩
  ·
    rw [fneq_self] at c1
    refine J.skip ?_
    refine thenQ.n ?_
    refine J.seq ?_
    refine J.region_lit ?_
    refine JL.q rfl rfl rfl (QW.move (.tmp rfl)) ?_
    refine JL.q rfl rfl rfl (QW.move (.tmp rfl)) ?_
    refine JL.q rfl rfl rfl (QW.conv_int us22 iu2 (.tmp rfl) rfl) ?_
    refine JL.q rfl rfl rfl (QW.shr (.tmp rfl) .const (by first | decide | omega) rfl) ?_
    refine JL.q rfl rfl rfl (QW.conv_int us2 iu22 (.tmp rfl) rfl) ?_
    refine JL.q rfl rfl rfl (QW.or (.tmp rfl) .const rfl) ?_
    refine JL.q rfl rfl rfl (QW.xor (.tmp rfl) (.tmp rfl) rfl) ?_
    refine JL.q rfl rfl rfl (QW.assign (.tmp rfl)) ?_
    refine JL.nil ?_
    refine thenQ.n ?_
    refine J.ret ?_
    exact ⟨_, [], _, RetEv.one rfl (REv.tmp rfl (.refl _)), rfl, List.Perm.refl _, by rw [← order_bits hb c1]; rfl, rfl⟩


theorem two_ok (op : BinOp) (g : Nat) (a b : Nat) (hgo : goFn Try.prog g = true) (hg : FnR Try.prog g [.c (flt a), .c (flt b)] (fun z => ∃ c, z = .c (flt c) ∧ (farithN op a b = some c ∨ (farithN op a b = none ∧ nanAny c)))) : Fn Try.prog 38 [.c (.int .u64 (a : Int)), .c (.int .u64 (b : Int)), .c (.func (.func g) #[] #[])] (.c (.int .u64 (arithN op a b : Int))) := by
  refine AC.of_J Try.func38 rfl Try.ntmps38 rfl fun w0 A0 => ?_
  refine J.seq ?_
  refine J.region_lit ?_
  refine JL.q rfl rfl rfl (QW.assign .const) ?_
  refine JL.nil ?_
  refine thenQ.n ?_
  refine J.seq ?_
  refine J.region_lit ?_
  refine JL.q rfl rfl rfl (QW.move (.tmp rfl)) ?_
  refine JL.q rfl rfl rfl (QW.move (.tmp rfl)) ?_
  refine JL.q rfl rfl rfl (QW.ext (extFrom _) (.tmp rfl)) ?_
  refine JL.q rfl rfl rfl (QW.move (.tmp rfl)) ?_
  refine JL.q rfl rfl rfl (QW.ext (extFrom _) (.tmp rfl)) ?_
  refine JL.callV0 (fi := []) (ca := []) hgo rfl (.tmp rfl) (.cons (.tmp rfl) (.cons (.tmp rfl) .nil)) rfl (hg) ?_
  rintro _ ⟨x12, rfl, h12⟩
  refine JL.q rfl rfl rfl (QW.call gofn37 (.cons (.tmp rfl) .nil) (by (apply of_ok <;> first | assumption | omega))) ?_
  refine JL.q rfl rfl rfl (QW.assign (.tmp rfl)) ?_
  refine JL.nil ?_
  refine thenQ.n ?_
  refine J.ret ?_
  exact ⟨_, [], _, RetEv.one rfl (REv.tmp rfl (.refl _)), rfl, List.Perm.refl _, by rw [arith_canon h12], rfl⟩


theorem fadd_ok (a b : Nat) : FnR Try.prog 39 [.c (flt a), .c (flt b)] (fun z => ∃ c, z = .c (flt c) ∧ (farithN .add a b = some c ∨ (farithN .add a b = none ∧ nanAny c))) := by
  refine AC.of_J Try.func39 rfl Try.ntmps39 rfl fun w0 A0 => ?_
  refine J.seq ?_
  refine J.region_lit ?_
  refine JL.q rfl rfl rfl (QW.assign .const) ?_
  refine JL.nil ?_
  refine thenQ.n ?_
  refine J.seq ?_
  refine J.region_lit ?_
  refine JL.q rfl rfl rfl (QW.move (.tmp rfl)) ?_
  refine JL.q rfl rfl rfl (QW.move (.tmp rfl)) ?_
  refine JL.farith (by decide) (.tmp rfl) (.tmp rfl) rfl fun x7 h7 => ?_
  refine JL.q rfl rfl rfl (QW.assign (.tmp rfl)) ?_
  refine JL.nil ?_
  refine thenQ.n ?_
  refine J.ret ?_
  exact ⟨_, [], _, RetEv.one rfl (REv.tmp rfl (.refl _)), rfl, List.Perm.refl _, rfl, _, rfl, ⟨_, rfl, by assumption⟩⟩


theorem add_ok (a b : Nat) : Fn Try.prog 16 [.c (.int .u64 (a : Int)), .c (.int .u64 (b : Int))] (.c (.int .u64 (arithN .add a b : Int))) := by
  refine AC.of_J Try.func16 rfl Try.ntmps16 rfl fun w0 A0 => ?_
  refine J.seq ?_
  refine J.region_lit ?_
  refine JL.q rfl rfl rfl (QW.assign .const) ?_
  refine JL.nil ?_
  refine thenQ.n ?_
  refine J.seq ?_
  refine J.region_lit ?_
  refine JL.q rfl rfl rfl (QW.move (.tmp rfl)) ?_
  refine JL.q rfl rfl rfl (QW.move (.tmp rfl)) ?_
  refine JL.q rfl rfl rfl (QW.call gofn38 (.cons (.tmp rfl) (.cons (.tmp rfl) (.cons .func .nil))) (two_ok .add _ _ _ gofn39 (fadd_ok _ _))) ?_
  refine JL.q rfl rfl rfl (QW.assign (.tmp rfl)) ?_
  refine JL.nil ?_
  refine thenQ.n ?_
  refine J.ret ?_
  exact ⟨_, [], _, RetEv.one rfl (REv.tmp rfl (.refl _)), rfl, List.Perm.refl _, rfl, rfl⟩


theorem fsub_ok (a b : Nat) : FnR Try.prog 41 [.c (flt a), .c (flt b)] (fun z => ∃ c, z = .c (flt c) ∧ (farithN .sub a b = some c ∨ (farithN .sub a b = none ∧ nanAny c))) := by
  refine AC.of_J Try.func41 rfl Try.ntmps41 rfl fun w0 A0 => ?_
  refine J.seq ?_
  refine J.region_lit ?_
  refine JL.q rfl rfl rfl (QW.assign .const) ?_
  refine JL.nil ?_
  refine thenQ.n ?_
  refine J.seq ?_
  refine J.region_lit ?_
  refine JL.q rfl rfl rfl (QW.move (.tmp rfl)) ?_
  refine JL.q rfl rfl rfl (QW.move (.tmp rfl)) ?_
  refine JL.farith (by decide) (.tmp rfl) (.tmp rfl) rfl fun x7 h7 => ?_
  refine JL.q rfl rfl rfl (QW.assign (.tmp rfl)) ?_
  refine JL.nil ?_
  refine thenQ.n ?_
  refine J.ret ?_
  exact ⟨_, [], _, RetEv.one rfl (REv.tmp rfl (.refl _)), rfl, List.Perm.refl _, rfl, _, rfl, ⟨_, rfl, by assumption⟩⟩


theorem sub_ok (a b : Nat) : Fn Try.prog 18 [.c (.int .u64 (a : Int)), .c (.int .u64 (b : Int))] (.c (.int .u64 (arithN .sub a b : Int))) := by
  refine AC.of_J Try.func18 rfl Try.ntmps18 rfl fun w0 A0 => ?_
  refine J.seq ?_
  refine J.region_lit ?_
  refine JL.q rfl rfl rfl (QW.assign .const) ?_
  refine JL.nil ?_
  refine thenQ.n ?_
  refine J.seq ?_
  refine J.region_lit ?_
  refine JL.q rfl rfl rfl (QW.move (.tmp rfl)) ?_
  refine JL.q rfl rfl rfl (QW.move (.tmp rfl)) ?_
  refine JL.q rfl rfl rfl (QW.call gofn38 (.cons (.tmp rfl) (.cons (.tmp rfl) (.cons .func .nil))) (two_ok .sub _ _ _ gofn41 (fsub_ok _ _))) ?_
  refine JL.q rfl rfl rfl (QW.assign (.tmp rfl)) ?_
  refine JL.nil ?_
  refine thenQ.n ?_
  refine J.ret ?_
  exact ⟨_, [], _, RetEv.one rfl (REv.tmp rfl (.refl _)), rfl, List.Perm.refl _, rfl, rfl⟩


theorem fmul_ok (a b : Nat) : FnR Try.prog 42 [.c (flt a), .c (flt b)] (fun z => ∃ c, z = .c (flt c) ∧ (farithN .mul a b = some c ∨ (farithN .mul a b = none ∧ nanAny c))) := by
  refine AC.of_J Try.func42 rfl Try.ntmps42 rfl fun w0 A0 => ?_
  refine J.seq ?_
  refine J.region_lit ?_
  refine JL.q rfl rfl rfl (QW.assign .const) ?_
  refine JL.nil ?_
  refine thenQ.n ?_
  refine J.seq ?_
  refine J.region_lit ?_
  refine JL.q rfl rfl rfl (QW.move (.tmp rfl)) ?_
  refine JL.q rfl rfl rfl (QW.move (.tmp rfl)) ?_
  refine JL.farith (by decide) (.tmp rfl) (.tmp rfl) rfl fun x7 h7 => ?_
  refine JL.q rfl rfl rfl (QW.assign (.tmp rfl)) ?_
  refine JL.nil ?_
  refine thenQ.n ?_
  refine J.ret ?_
  exact ⟨_, [], _, RetEv.one rfl (REv.tmp rfl (.refl _)), rfl, List.Perm.refl _, rfl, _, rfl, ⟨_, rfl, by assumption⟩⟩


theorem mul_ok (a b : Nat) : Fn Try.prog 20 [.c (.int .u64 (a : Int)), .c (.int .u64 (b : Int))] (.c (.int .u64 (arithN .mul a b : Int))) := by
  refine AC.of_J Try.func20 rfl Try.ntmps20 rfl fun w0 A0 => ?_
  refine J.seq ?_
  refine J.region_lit ?_
  refine JL.q rfl rfl rfl (QW.assign .const) ?_
  refine JL.nil ?_
  refine thenQ.n ?_
  refine J.seq ?_
  refine J.region_lit ?_
  refine JL.q rfl rfl rfl (QW.move (.tmp rfl)) ?_
  refine JL.q rfl rfl rfl (QW.move (.tmp rfl)) ?_
  refine JL.q rfl rfl rfl (QW.call gofn38 (.cons (.tmp rfl) (.cons (.tmp rfl) (.cons .func .nil))) (two_ok .mul _ _ _ gofn42 (fmul_ok _ _))) ?_
  refine JL.q rfl rfl rfl (QW.assign (.tmp rfl)) ?_
  refine JL.nil ?_
  refine thenQ.n ?_
  refine J.ret ?_
  exact ⟨_, [], _, RetEv.one rfl (REv.tmp rfl (.refl _)), rfl, List.Perm.refl _, rfl, rfl⟩


theorem fquo_ok (a b : Nat) : FnR Try.prog 43 [.c (flt a), .c (flt b)] (fun z => ∃ c, z = .c (flt c) ∧ (farithN .quo a b = some c ∨ (farithN .quo a b = none ∧ nanAny c))) := by
  refine AC.of_J Try.func43 rfl Try.ntmps43 rfl fun w0 A0 => ?_
  refine J.seq ?_
  refine J.region_lit ?_
  refine JL.q rfl rfl rfl (QW.assign .const) ?_
  refine JL.nil ?_
  refine thenQ.n ?_
  refine J.seq ?_
  refine J.region_lit ?_
  refine JL.q rfl rfl rfl (QW.move (.tmp rfl)) ?_
  refine JL.q rfl rfl rfl (QW.move (.tmp rfl)) ?_
  refine JL.farith (by decide) (.tmp rfl) (.tmp rfl) rfl fun x7 h7 => ?_
  refine JL.q rfl rfl rfl (QW.assign (.tmp rfl)) ?_
  refine JL.nil ?_
  refine thenQ.n ?_
  refine J.ret ?_
  exact ⟨_, [], _, RetEv.one rfl (REv.tmp rfl (.refl _)), rfl, List.Perm.refl _, rfl, _, rfl, ⟨_, rfl, by assumption⟩⟩


theorem quo_ok (a b : Nat) : Fn Try.prog 22 [.c (.int .u64 (a : Int)), .c (.int .u64 (b : Int))] (.c (.int .u64 (arithN .quo a b : Int))) := by
  refine AC.of_J Try.func22 rfl Try.ntmps22 rfl fun w0 A0 => ?_
  refine J.seq ?_
  refine J.region_lit ?_
  refine JL.q rfl rfl rfl (QW.assign .const) ?_
  refine JL.nil ?_
  refine thenQ.n ?_
  refine J.seq ?_
  refine J.region_lit ?_
  refine JL.q rfl rfl rfl (QW.move (.tmp rfl)) ?_
  refine JL.q rfl rfl rfl (QW.move (.tmp rfl)) ?_
  refine JL.q rfl rfl rfl (QW.call gofn38 (.cons (.tmp rfl) (.cons (.tmp rfl) (.cons .func .nil))) (two_ok .quo _ _ _ gofn43 (fquo_ok _ _))) ?_
  refine JL.q rfl rfl rfl (QW.assign (.tmp rfl)) ?_
  refine JL.nil ?_
  refine thenQ.n ?_
  refine J.ret ?_
  exact ⟨_, [], _, RetEv.one rfl (REv.tmp rfl (.refl _)), rfl, List.Perm.refl _, rfl, rfl⟩

theorem findFloor : Extern.find Try.f49 = some (Extern.MathFloor.toIntegral "math.archFloor" .down) := by kernel_rfl
theorem extFloor (b : Nat) (w : World) : (callFunc 49 #[flt b]).run Try.prog w = ((Extern.MathFloor.toIntegral "math.archFloor" .down #[flt b]).run Try.prog w).andThen fun v w => .ok (.value v) w :=
  callFunc_ext Try.func49 (by kernel_rfl) (by kernel_rfl) (by kernel_rfl) findFloor _ _


theorem mfloor_ok (b : Nat) : FnR Try.prog 44 [.c (flt b)] (fun z => ∃ c, z = .c (flt c) ∧ ((isNan b = false ∧ c = floorN b) ∨ (isNan b = true ∧ isNan c = true))) := by
  refine AC.of_J Try.func44 rfl Try.ntmps44 rfl fun w0 A0 => ?_
  refine J.seq ?_
  refine J.region_lit ?_
  refine JL.q rfl rfl rfl (QW.assign .const) ?_
  refine JL.nil ?_
  refine thenQ.n ?_
  refine J.seq ?_
  refine J.cond .const (fun c1 => ?_) (fun c1 => absurd c1 (by decide))
  refine J.seq ?_
  refine J.region_lit ?_
  refine JL.q rfl rfl rfl (QW.move (.tmp rfl)) ?_
  refine JL.arch extFloor (.tmp rfl) rfl fun x4 h4 => ?_
  refine JL.q rfl rfl rfl (QW.assign (.tmp rfl)) ?_
  refine JL.nil ?_
  refine thenQ.n ?_
  refine J.ret ?_
  refine thenQ.r ?_
  exact ⟨_, [], _, RetEv.one rfl (REv.tmp rfl (.refl _)), rfl, List.Perm.refl _, rfl, _, rfl, ⟨_, rfl, h4⟩⟩


theorem floor_ok (b : Nat) : Fn Try.prog 24 [.c (.int .u64 (b : Int))] (.c (.int .u64 (floorC b : Int))) := by
  refine AC.of_J Try.func24 rfl Try.ntmps24 rfl fun w0 A0 => ?_
  refine J.seq ?_
  refine J.region_lit ?_
  refine JL.q rfl rfl rfl (QW.assign .const) ?_
  refine JL.nil ?_
  refine thenQ.n ?_
  refine J.seq ?_
  refine J.region_lit ?_
  refine JL.q rfl rfl rfl (QW.move (.tmp rfl)) ?_
  refine JL.q rfl rfl rfl (QW.ext (extFrom _) (.tmp rfl)) ?_
  refine JL.call0 gofn44 rfl (.cons (.tmp rfl) .nil) (mfloor_ok _) ?_
  rintro _ ⟨x5, rfl, h5⟩
  refine JL.q rfl rfl rfl (QW.call gofn37 (.cons (.tmp rfl) .nil) (by (apply of_ok <;> first | assumption | omega))) ?_
  refine JL.q rfl rfl rfl (QW.assign (.tmp rfl)) ?_
  refine JL.nil ?_
  refine thenQ.n ?_
  refine J.ret ?_
  exact ⟨_, [], _, RetEv.one rfl (REv.tmp rfl (.refl _)), rfl, List.Perm.refl _, by
      rcases h5 with ⟨h1, rfl⟩ | ⟨h1, h2⟩
      · simp [floorC, h1, canonN, floorN, write_nonnan (integral_nonnan h1 .down)]
      · simp [floorC, h1, canonN, h2], rfl⟩


theorem num01_ok (n : Int) : Fn Try.prog 26 [.c (.int .i64 n)] (.c (.int .i64 n)) := by
  refine AC.of_J Try.func26 rfl Try.ntmps26 rfl fun w0 A0 => ?_
  refine J.seq ?_
  refine J.region_lit ?_
  refine JL.q rfl rfl rfl (QW.assign .const) ?_
  refine JL.nil ?_
  refine thenQ.n ?_
  refine J.seq ?_
  refine J.region_lit ?_
  refine JL.q rfl rfl rfl (QW.move (.tmp rfl)) ?_
  refine JL.q rfl rfl rfl (QW.assign (.tmp rfl)) ?_
  refine JL.nil ?_
  refine thenQ.n ?_
  refine J.ret ?_
  exact ⟨_, [], _, RetEv.one rfl (REv.tmp rfl (.refl _)), rfl, List.Perm.refl _, rfl, rfl⟩

def nearN (n : Int) : Nat := FloatKind.f64.nearest n
def ofN (n : Int) : Nat := if n < -9007199254740992 ∨ 9007199254740992 < n then 0 else nearN n
def ofE (n : Int) : Int := if n < -9007199254740992 ∨ 9007199254740992 < n then 4 else 0
theorem of_test {n : Int} (h : -9223372036854775808 ≤ n ∧ n ≤ 9223372036854775807) :
    ((decide (9007199254740992 < if IntKind.i64.wrap (0 - n) > n then IntKind.i64.wrap (0 - n) else n)) || ((n == IntKind.i64.wrap (0 - n)) && (n != 0))) = decide (n < -9007199254740992 ∨ 9007199254740992 < n) := by
  by_cases hm : n = -9223372036854775808
  · subst hm; decide
  · rw [w64 (by omega)]
    by_cases h0 : n = 0 - n
    · have : n = 0 := by omega
      subst this; decide
    · have h1 : (n == 0 - n) = false := by simpa using h0
      rw [h1, Bool.false_and, Bool.or_false, decide_eq_decide]
      split <;> omega


theorem ofInt_ok (n : Int) (h : -9223372036854775808 ≤ n ∧ n ≤ 9223372036854775807) : Fn Try.prog 25 [.c (.int .i64 n)] (.tup [.c (.int .u64 (ofN n : Int)), .c (.int .i64 (ofE n))]) := by
  refine AC.of_J Try.func25 rfl Try.ntmps25 rfl fun w0 A0 => ?_
  refine J.seq ?_
  refine J.region_lit ?_
  refine JL.q rfl rfl rfl (QW.assign .const) ?_
  refine JL.q rfl rfl rfl (QW.assign .const) ?_
  refine JL.nil ?_
  refine thenQ.n ?_
  refine J.seq ?_
  refine J.seq ?_
  refine J.region_lit ?_
  refine JL.q rfl rfl rfl (QW.move (.tmp rfl)) ?_
  refine JL.q rfl rfl rfl (QW.move (.tmp rfl)) ?_
  refine JL.q rfl rfl rfl (QW.neg (.tmp rfl) rfl) ?_
  refine JL.q rfl rfl rfl (QW.max2 (.tmp rfl) (.tmp rfl)) ?_
  refine JL.q rfl rfl rfl (QW.gtr (.tmp rfl) .const) ?_
  refine JL.q rfl rfl rfl (QW.move (.tmp rfl)) ?_
  refine JL.g rfl rfl rfl rfl rfl (fun hg => (QW.move (.tmp rfl))) ?_
  refine JL.g rfl rfl rfl rfl rfl (fun hg => (QW.move (.tmp rfl))) ?_
  refine JL.g rfl rfl rfl rfl rfl (fun hg => QW.neg (.when rfl hg) rfl) ?_
  refine JL.g rfl rfl rfl rfl rfl (fun hg => (QW.eql (.when rfl hg) (.when rfl hg))) ?_
  refine JL.g rfl rfl rfl rfl rfl (fun hg => (QW.move (.when rfl hg))) ?_
  refine JL.gg rfl rfl rfl rfl rfl (fun hg => (QW.move (.tmp rfl))) ?_
  refine JL.gg rfl rfl rfl rfl rfl (fun hg => (QW.neq (.when rfl hg) .const)) ?_
  refine JL.g rfl rfl rfl rfl rfl (fun hg => (by first | exact QW.pick_and (.when rfl hg) (.tmp rfl) | exact QW.pick_and2 hg (.when rfl hg) (.tmp rfl))) ?_
  refine JL.q rfl rfl rfl (QW.pick_or (.tmp rfl) (.tmp rfl)) ?_
  refine JL.nil ?_
  refine thenQ.n ?_
  refine J.cond (.tmp rfl) (fun c1 => ?_) (fun c1 => ?_)
  ·
    rw [of_test h] at c1; simp at c1
    refine J.seq ?_
    refine J.region_lit ?_
    refine JL.q rfl rfl rfl (QW.assign .const) ?_
    refine JL.q rfl rfl rfl (QW.assign .const) ?_
    refine JL.nil ?_
    refine thenQ.n ?_
    refine J.ret ?_
    refine thenQ.r ?_
    exact ⟨_, [], _, RetEv.two rfl (REv.tmp rfl (.refl _)) (REv.tmp rfl (.refl _)), rfl, List.Perm.refl _, by simp [ofN, ofE, c1], rfl⟩
  ·
    rw [of_test h] at c1; simp at c1
    refine J.skip ?_
    refine thenQ.n ?_
    refine J.seq ?_
    refine J.region_lit ?_
    refine JL.q rfl rfl rfl (QW.move (.tmp rfl)) ?_
    refine JL.q rfl rfl rfl (QW.conv_if us3 fl27 (.tmp rfl)) ?_
    refine JL.q rfl rfl rfl (QW.ext (extBits _) (.tmp rfl)) ?_
    refine JL.q rfl rfl rfl (QW.assign (.tmp rfl)) ?_
    refine JL.q rfl rfl rfl (QW.assign .const) ?_
    refine JL.nil ?_
    refine thenQ.n ?_
    refine J.ret ?_
    exact ⟨_, [], _, RetEv.two rfl (REv.tmp rfl (.refl _)) (REv.tmp rfl (.refl _)), rfl, List.Perm.refl _, by rw [ofN, ofE, if_neg (by omega), if_neg (by omega)]; rfl, rfl⟩


theorem alive01_ok : Fn Try.prog 11 [] (.c (.bool true)) := by
  refine AC.of_J Try.func11 rfl Try.ntmps11 rfl fun w0 A0 => ?_
  refine J.seq ?_
  refine J.region_lit ?_
  refine JL.q rfl rfl rfl (QW.assign .const) ?_
  refine JL.nil ?_
  refine thenQ.n ?_
  refine J.seq ?_
  refine J.region_lit ?_
  refine JL.q rfl rfl rfl (QW.call gofn25 (.cons (by first | exact .const | exact .func | exact Ev.le .const (by exact .nil _ _ _)) .nil) (by (apply ofInt_ok <;> first | assumption | omega))) ?_
  refine JL.q rfl rfl rfl (QW.move (.tmp rfl)) ?_
  refine JL.q rfl rfl rfl (QW.extract (.tmp rfl) rfl) ?_
  refine JL.q rfl rfl rfl (QW.extract (.tmp rfl) rfl) ?_
  refine JL.q rfl rfl rfl (QW.assign (.tmp rfl)) ?_
  refine JL.q rfl rfl rfl (QW.assign (.tmp rfl)) ?_
  refine JL.nil ?_
  refine thenQ.n ?_
  refine J.seq ?_
  refine J.region_lit ?_
  refine JL.q rfl rfl rfl (QW.move (.tmp rfl)) ?_
  refine JL.q rfl rfl rfl (QW.call gofn26 (.cons (.tmp rfl) .nil) (by (apply num01_ok <;> first | assumption | omega))) ?_
  refine JL.q rfl rfl rfl (QW.eql (.tmp rfl) .const) ?_
  refine JL.q rfl rfl rfl (QW.move (.tmp rfl)) ?_
  refine JL.g rfl rfl rfl rfl rfl (fun hg => (QW.move (.tmp rfl))) ?_
  refine JL.g rfl rfl rfl rfl rfl (fun hg => (QW.eql (.when rfl hg) .const)) ?_
  refine JL.q rfl rfl rfl (QW.pick_and (.tmp rfl) (.tmp rfl)) ?_
  refine JL.q rfl rfl rfl (QW.move (.tmp rfl)) ?_
  refine JL.g rfl rfl rfl rfl rfl (fun hg => (QW.call gofn12 (.cons .const .nil) (class_ok 9223372036854775808 (by decide)))) ?_
  refine JL.g rfl rfl rfl rfl rfl (fun hg => (QW.eql (.when rfl hg) .const)) ?_
  refine JL.q rfl rfl rfl (QW.pick_and (.tmp rfl) (.tmp rfl)) ?_
  refine JL.q rfl rfl rfl (QW.move (.tmp rfl)) ?_
  refine JL.g rfl rfl rfl rfl rfl (fun hg => (QW.call gofn22 (.cons (by first | exact .const | exact .func | exact Ev.le .const (by exact .nil _ _ _)) (.cons (by first | exact .const | exact .func | exact Ev.le .const (by exact .nil _ _ _)) .nil)) (by (apply quo_ok <;> first | assumption | omega)))) ?_
  refine JL.g rfl rfl rfl rfl rfl (fun hg => (QW.eql (.when rfl hg) .const)) ?_
  refine JL.q rfl rfl rfl (QW.pick_and (.tmp rfl) (.tmp rfl)) ?_
  refine JL.q rfl rfl rfl (QW.move (.tmp rfl)) ?_
  refine JL.g rfl rfl rfl rfl rfl (fun hg => (QW.call gofn24 (.cons (by first | exact .const | exact .func | exact Ev.le .const (by exact .nil _ _ _)) .nil) (by (apply floor_ok <;> first | assumption | omega)))) ?_
  refine JL.g rfl rfl rfl rfl rfl (fun hg => (QW.eql (.when rfl hg) .const)) ?_
  refine JL.q rfl rfl rfl (QW.pick_and (.tmp rfl) (.tmp rfl)) ?_
  refine JL.q rfl rfl rfl (QW.assign (.tmp rfl)) ?_
  refine JL.nil ?_
  refine thenQ.n ?_
  refine J.ret ?_
  exact ⟨_, [], _, RetEv.one rfl (REv.tmp rfl (.refl _)), rfl, List.Perm.refl _, ret_bool (by decide +kernel), rfl⟩

end Go.Proofs.Ytppoepenmpcbnaa.J
