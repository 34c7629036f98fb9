/- Walks: the page's own answers for numbers (the package fanlightref01), first part; FloatReckons. -/
import Derived.Test.YtppoepenmpcbnaaWl01b
namespace Go.Proofs.Ytppoepenmpcbnaa.J
open Go Go.RowKit
set_option linter.unusedVariables false
set_option linter.unusedSimpArgs false
set_option maxRecDepth 10000

def expN (b : Nat) : Nat := b / 2 ^ 52 % 2048
def fracN (b : Nat) : Nat := b % 2 ^ 52
theorem and_mask2 {b : Nat} (k : Nat) (hb : b < 2 ^ 64) (hk : 2 ^ k - 1 < 2 ^ 64) : bitsOp .and .u64 (b : Int) ((2 ^ k - 1 : Nat) : Int) = ((b % 2 ^ k : Nat) : Int) := by
  rw [bits_and b _ hb hk, Nat.and_two_pow_sub_one_eq_mod]
theorem frac_bits {b : Nat} (hb : b < 2 ^ 64) : bitsOp .and .u64 (b : Int) 4503599627370495 = (fracN b : Int) := and_mask2 52 hb (by decide)
theorem exp_bits {b : Nat} (hb : b < 2 ^ 64) : bitsOp .and .u64 ((b / 2 ^ 52 : Nat) : Int) 2047 = (expN b : Int) := and_mask2 11 (by omega) (by decide)
theorem rung_fields (b : Nat) : rung b = expN b * 2 ^ 52 + fracN b := by unfold rung expN fracN; omega
theorem exp_lt (b : Nat) : expN b < 2048 := Nat.mod_lt _ (by decide)
theorem frac_lt (b : Nat) : fracN b < 2 ^ 52 := Nat.mod_lt _ (by decide)
theorem nan_fields (b : Nat) : isNan b = true ↔ expN b = 2047 ∧ fracN b ≠ 0 := by
  rw [isNan_eq, decide_eq_true_eq, rung_fields]
  have h1 := exp_lt b
  have h2 := frac_lt b
  unfold infR
  omega
theorem canon_lt {b : Nat} (h : b < 2 ^ 64) : canonN b < 2 ^ 64 := by unfold canonN oneNan; split <;> omega
theorem nanAny_lt {c : Nat} (h : nanAny c) : c < 2 ^ 64 := by
  obtain ⟨t, rfl⟩ := h
  have h1 := Nat.mod_lt t (show 0 < 2 by decide)
  have h2 := Nat.mod_lt (t / 2) (show 0 < 2 ^ 52 - 1 by decide)
  omega
theorem class_two {b : Nat} (hb : b < 2 ^ 64) : classN b =
    if expN b = 2047 ∧ fracN b ≠ 0 then 5 else if expN b = 2047 then 4 else if 0 < expN b then 3 else if 0 < fracN b then 2 else if b = 2 ^ 63 then 1 else 0 := by
  have h := nan_fields b
  have h1 := exp_lt b
  have h2 := frac_lt b
  have h3 := rung_fields b
  have h4 : b = 2 ^ 63 ↔ (rung b = 0 ∧ 2 ^ 63 ≤ b) := by unfold rung; omega
  unfold classN
  unfold infR
  cases hn : isNan b with
  | true => rw [if_pos rfl, if_pos (h.1 hn)]
  | false =>
    rw [hn] at h
    have h' : ¬ (expN b = 2047 ∧ fracN b ≠ 0) := fun e => by have := h.2 e; cases this
    rw [if_neg (by decide), if_neg h']
    repeat' split
    all_goals first | rfl | omega


theorem rexp_ok (b : Nat) (hb : b < 2 ^ 64) : Fn Try.prog 47 [.c (.int .u64 (b : Int))] (.c (.int .i64 (expN b : Int))) := by
  refine AC.of_J Try.func47 rfl Try.ntmps47 rfl fun w0 A0 => ?_
  refine J.seq ?_
  refine J.region_lit ?_
  refine JL.q rfl rfl rfl (QW.assign .const) ?_
  refine JL.nil ?_
  refine thenQ.n ?_
  refine J.seq ?_
  refine J.region_lit ?_
  refine JL.q rfl rfl rfl (QW.move (.tmp rfl)) ?_
  refine JL.q rfl rfl rfl (QW.shr (c := ((b / 2 ^ 52 : Nat) : Int)) (.tmp rfl) .const (by decide) (shr_nat b 52)) ?_
  refine JL.q rfl rfl rfl (QW.and (.tmp rfl) .const (exp_bits hb)) ?_
  refine JL.q rfl rfl rfl (QW.conv_int (c := (expN b : Int)) us22 iu3 (.tmp rfl) (w64 (by have := exp_lt b; omega))) ?_
  refine JL.q rfl rfl rfl (QW.assign (.tmp rfl)) ?_
  refine JL.nil ?_
  refine thenQ.n ?_
  refine J.ret ?_
  exact ⟨_, [], _, RetEv.one rfl (REv.tmp rfl (.refl _)), rfl, List.Perm.refl _, rfl, rfl⟩


theorem rfrac_ok (b : Nat) (hb : b < 2 ^ 64) : Fn Try.prog 48 [.c (.int .u64 (b : Int))] (.c (.int .u64 (fracN b : Int))) := by
  refine AC.of_J Try.func48 rfl Try.ntmps48 rfl fun w0 A0 => ?_
  refine J.seq ?_
  refine J.region_lit ?_
  refine JL.q rfl rfl rfl (QW.assign .const) ?_
  refine JL.nil ?_
  refine thenQ.n ?_
  refine J.seq ?_
  refine J.region_lit ?_
  refine JL.q rfl rfl rfl (QW.move (.tmp rfl)) ?_
  refine JL.q rfl rfl rfl (QW.and (.tmp rfl) .const (frac_bits hb)) ?_
  refine JL.q rfl rfl rfl (QW.assign (.tmp rfl)) ?_
  refine JL.nil ?_
  refine thenQ.n ?_
  refine J.ret ?_
  exact ⟨_, [], _, RetEv.one rfl (REv.tmp rfl (.refl _)), rfl, List.Perm.refl _, rfl, rfl⟩


theorem rclass_ok (b : Nat) (hb : b < 2 ^ 64) : Fn Try.prog 31 [.c (.int .u64 (b : Int))] (.c (.int .i64 (classN b))) := by
  refine AC.of_J Try.func31 rfl Try.ntmps31 rfl fun w0 A0 => ?_
  refine J.seq ?_
  refine J.region_lit ?_
  refine JL.q rfl rfl rfl (QW.assign .const) ?_
  refine JL.nil ?_
  refine thenQ.n ?_
  refine J.seq ?_
  refine J.block ?_
  refine J.seq ?_
  refine J.region_lit ?_
  refine JL.q rfl rfl rfl (QW.move (.tmp rfl)) ?_
  refine JL.q rfl rfl rfl (QW.call gofn47 (.cons (.tmp rfl) .nil) (by (apply rexp_ok <;> first | assumption | omega))) ?_
  refine JL.q rfl rfl rfl (QW.eql (.tmp rfl) .const) ?_
  refine JL.q rfl rfl rfl (QW.move (.tmp rfl)) ?_
  refine JL.g rfl rfl rfl rfl rfl (fun hg => (QW.move (.tmp rfl))) ?_
  refine JL.g rfl rfl rfl rfl rfl (fun hg => (QW.call gofn48 (.cons (.when rfl hg) .nil) (by (apply rfrac_ok <;> first | assumption | omega)))) ?_
  refine JL.g rfl rfl rfl rfl rfl (fun hg => (QW.neq (.when rfl hg) .const)) ?_
  refine JL.q rfl rfl rfl (QW.pick_and (.tmp rfl) (.tmp rfl)) ?_
  refine JL.q rfl rfl rfl (QW.assign (.tmp rfl)) ?_
  refine JL.nil ?_
  refine thenQ.n ?_
  refine J.cond (.tmp rfl) (fun c1 => ?_) (fun c1 => ?_)
  ·
    simp at c1
    refine J.seq ?_
    refine J.region_lit ?_
    refine JL.q rfl rfl rfl (QW.assign .const) ?_
    refine JL.nil ?_
    refine thenQ.n ?_
    refine J.ret ?_
    refine blkQ.r ?_
    refine thenQ.r ?_
    exact ⟨_, [], _, RetEv.one rfl (REv.tmp rfl (.refl _)), rfl, List.Perm.refl _, by rw [class_two hb, if_pos (by omega)], rfl⟩
  ·
    simp at c1
    refine J.seq ?_
    refine J.region_lit ?_
    refine JL.q rfl rfl rfl (QW.move (.tmp rfl)) ?_
    refine JL.q rfl rfl rfl (QW.call gofn47 (.cons (.tmp rfl) .nil) (by (apply rexp_ok <;> first | assumption | omega))) ?_
    refine JL.q rfl rfl rfl (QW.eql (.tmp rfl) .const) ?_
    refine JL.q rfl rfl rfl (QW.assign (.tmp rfl)) ?_
    refine JL.nil ?_
    refine thenQ.n ?_
    refine J.cond (.tmp rfl) (fun c2 => ?_) (fun c2 => ?_)
    ·
      simp at c2
      refine J.seq ?_
      refine J.region_lit ?_
      refine JL.q rfl rfl rfl (QW.assign .const) ?_
      refine JL.nil ?_
      refine thenQ.n ?_
      refine J.ret ?_
      refine blkQ.r ?_
      refine thenQ.r ?_
      exact ⟨_, [], _, RetEv.one rfl (REv.tmp rfl (.refl _)), rfl, List.Perm.refl _, by rw [class_two hb, if_neg (by omega), if_pos (by omega)], rfl⟩
    ·
      simp at c2
      refine J.seq ?_
      refine J.region_lit ?_
      refine JL.q rfl rfl rfl (QW.move (.tmp rfl)) ?_
      refine JL.q rfl rfl rfl (QW.call gofn47 (.cons (.tmp rfl) .nil) (by (apply rexp_ok <;> first | assumption | omega))) ?_
      refine JL.q rfl rfl rfl (QW.gtr (.tmp rfl) .const) ?_
      refine JL.q rfl rfl rfl (QW.assign (.tmp rfl)) ?_
      refine JL.nil ?_
      refine thenQ.n ?_
      refine J.cond (.tmp rfl) (fun c3 => ?_) (fun c3 => ?_)
      ·
        simp at c3
        refine J.seq ?_
        refine J.region_lit ?_
        refine JL.q rfl rfl rfl (QW.assign .const) ?_
        refine JL.nil ?_
        refine thenQ.n ?_
        refine J.ret ?_
        refine blkQ.r ?_
        refine thenQ.r ?_
        exact ⟨_, [], _, RetEv.one rfl (REv.tmp rfl (.refl _)), rfl, List.Perm.refl _, by rw [class_two hb, if_neg (by omega), if_neg (by omega), if_pos (by omega)], rfl⟩
      ·
        simp at c3
        refine J.seq ?_
        refine J.region_lit ?_
        refine JL.q rfl rfl rfl (QW.move (.tmp rfl)) ?_
        refine JL.q rfl rfl rfl (QW.call gofn48 (.cons (.tmp rfl) .nil) (by (apply rfrac_ok <;> first | assumption | omega))) ?_
        refine JL.q rfl rfl rfl (QW.gtr (.tmp rfl) .const) ?_
        refine JL.q rfl rfl rfl (QW.assign (.tmp rfl)) ?_
        refine JL.nil ?_
        refine thenQ.n ?_
        refine J.cond (.tmp rfl) (fun c4 => ?_) (fun c4 => ?_)
        ·
          simp at c4
          refine J.seq ?_
          refine J.region_lit ?_
          refine JL.q rfl rfl rfl (QW.assign .const) ?_
          refine JL.nil ?_
          refine thenQ.n ?_
          refine J.ret ?_
          refine blkQ.r ?_
          refine thenQ.r ?_
          exact ⟨_, [], _, RetEv.one rfl (REv.tmp rfl (.refl _)), rfl, List.Perm.refl _, by rw [class_two hb, if_neg (by omega), if_neg (by omega), if_neg (by omega), if_pos (by omega)], rfl⟩
        ·
          simp at c4
          refine J.seq ?_
          refine J.region_lit ?_
          refine JL.q rfl rfl rfl (QW.move (.tmp rfl)) ?_
          refine JL.q rfl rfl rfl (QW.eql (.tmp rfl) .const) ?_
          refine JL.q rfl rfl rfl (QW.assign (.tmp rfl)) ?_
          refine JL.nil ?_
          refine thenQ.n ?_
          refine J.cond (.tmp rfl) (fun c5 => ?_) (fun c5 => ?_)
          ·
            simp at c5
            refine J.seq ?_
            refine J.region_lit ?_
            refine JL.q rfl rfl rfl (QW.assign .const) ?_
            refine JL.nil ?_
            refine thenQ.n ?_
            refine J.ret ?_
            refine blkQ.r ?_
            refine thenQ.r ?_
            exact ⟨_, [], _, RetEv.one rfl (REv.tmp rfl (.refl _)), rfl, List.Perm.refl _, by rw [class_two hb, if_neg (by omega), if_neg (by omega), if_neg (by omega), if_neg (by omega), if_pos (by omega)], rfl⟩
          ·
            simp at c5
            refine J.skip ?_
            refine blkQ.n ?_
            refine thenQ.n ?_
            refine J.seq ?_
            refine J.region_lit ?_
            refine JL.q rfl rfl rfl (QW.assign .const) ?_
            refine JL.nil ?_
            refine thenQ.n ?_
            refine J.ret ?_
            exact ⟨_, [], _, RetEv.one rfl (REv.tmp rfl (.refl _)), rfl, List.Perm.refl _, by rw [class_two hb, if_neg (by omega), if_neg (by omega), if_neg (by omega), if_neg (by omega), if_neg (by omega)], rfl⟩


theorem rcanon_ok (b : Nat) (hb : b < 2 ^ 64) : Fn Try.prog 30 [.c (.int .u64 (b : Int))] (.c (.int .u64 (canonN b : Int))) := by
  refine AC.of_J Try.func30 rfl Try.ntmps30 rfl fun w0 A0 => ?_
  refine J.seq ?_
  refine J.region_lit ?_
  refine JL.q rfl rfl rfl (QW.assign .const) ?_
  refine JL.nil ?_
  refine thenQ.n ?_
  refine J.seq ?_
  refine J.seq ?_
  refine J.region_lit ?_
  refine JL.q rfl rfl rfl (QW.move (.tmp rfl)) ?_
  refine JL.q rfl rfl rfl (QW.call gofn31 (.cons (.tmp rfl) .nil) (by (apply rclass_ok <;> first | assumption | omega))) ?_
  refine JL.q rfl rfl rfl (QW.eql (.tmp rfl) .const) ?_
  refine JL.nil ?_
  refine thenQ.n ?_
  refine J.cond (.tmp rfl) (fun c1 => ?_) (fun c1 => ?_)
  ·
    simp at c1
    refine J.seq ?_
    refine J.region_lit ?_
    refine JL.q rfl rfl rfl (QW.assign .const) ?_
    refine JL.nil ?_
    refine thenQ.n ?_
    refine J.ret ?_
    refine thenQ.r ?_
    exact ⟨_, [], _, RetEv.one rfl (REv.tmp rfl (.refl _)), rfl, List.Perm.refl _, by simp [canonN, class_nan.1 (show classN b = 5 by omega)]; rfl, rfl⟩
  ·
    simp at c1
    refine J.skip ?_
    refine thenQ.n ?_
    refine J.seq ?_
    refine J.region_lit ?_
    refine JL.q rfl rfl rfl (QW.move (.tmp rfl)) ?_
    refine JL.q rfl rfl rfl (QW.assign (.tmp rfl)) ?_
    refine JL.nil ?_
    refine thenQ.n ?_
    refine J.ret ?_
    exact ⟨_, [], _, RetEv.one rfl (REv.tmp rfl (.refl _)), rfl, List.Perm.refl _, by unfold canonN; rw [if_neg (fun h => c1 (by rw [class_nan.2 h]))], rfl⟩


theorem rof_ok (b : Nat) (hb : b < 2 ^ 64) : Fn Try.prog 40 [.c (flt b)] (.c (.int .u64 (canonN b : Int))) := by
  refine AC.of_J Try.func40 rfl Try.ntmps40 rfl fun w0 A0 => ?_
  refine J.seq ?_
  refine J.region_lit ?_
  refine JL.q rfl rfl rfl (QW.assign .const) ?_
  refine JL.nil ?_
  refine thenQ.n ?_
  refine J.seq ?_
  refine J.region_lit ?_
  refine JL.q rfl rfl rfl (QW.move (.tmp rfl)) ?_
  refine JL.q rfl rfl rfl (QW.ext (extBits _) (.tmp rfl)) ?_
  refine JL.q rfl rfl rfl (QW.call gofn30 (.cons (.tmp rfl) .nil) (by (apply rcanon_ok <;> first | assumption | omega))) ?_
  refine JL.q rfl rfl rfl (QW.assign (.tmp rfl)) ?_
  refine JL.nil ?_
  refine thenQ.n ?_
  refine J.ret ?_
  exact ⟨_, [], _, RetEv.one rfl (REv.tmp rfl (.refl _)), rfl, List.Perm.refl _, rfl, rfl⟩


theorem radd_ok (a b : Nat) : Fn Try.prog 17 [.c (.int .u64 (a : Int)), .c (.int .u64 (b : Int))] (.c (.int .u64 (arithN .add a b : Int))) := by
  refine AC.of_J Try.func17 rfl Try.ntmps17 rfl fun w0 A0 => ?_
  refine J.seq ?_
  refine J.region_lit ?_
  refine JL.q rfl rfl rfl (QW.assign .const) ?_
  refine JL.nil ?_
  refine thenQ.n ?_
  refine J.seq ?_
  refine J.region_lit ?_
  refine JL.q rfl rfl rfl (QW.move (.tmp rfl)) ?_
  refine JL.q rfl rfl rfl (QW.ext (extFrom _) (.tmp rfl)) ?_
  refine JL.q rfl rfl rfl (QW.move (.tmp rfl)) ?_
  refine JL.q rfl rfl rfl (QW.ext (extFrom _) (.tmp rfl)) ?_
  refine JL.farith (by decide) (.tmp rfl) (.tmp rfl) rfl fun x9 h9 => ?_
  have hlt : x9 < 2 ^ 64 := h9.elim (fun h => (farith_some h).2) (fun h => nanAny_lt h.2)
  refine JL.q rfl rfl rfl (QW.call gofn40 (.cons (.tmp rfl) .nil) (by (apply rof_ok <;> first | assumption | omega))) ?_
  refine JL.q rfl rfl rfl (QW.assign (.tmp rfl)) ?_
  refine JL.nil ?_
  refine thenQ.n ?_
  refine J.ret ?_
  exact ⟨_, [], _, RetEv.one rfl (REv.tmp rfl (.refl _)), rfl, List.Perm.refl _, by rw [arith_canon h9], rfl⟩


theorem rsub_ok (a b : Nat) : Fn Try.prog 19 [.c (.int .u64 (a : Int)), .c (.int .u64 (b : Int))] (.c (.int .u64 (arithN .sub a b : Int))) := by
  refine AC.of_J Try.func19 rfl Try.ntmps19 rfl fun w0 A0 => ?_
  refine J.seq ?_
  refine J.region_lit ?_
  refine JL.q rfl rfl rfl (QW.assign .const) ?_
  refine JL.nil ?_
  refine thenQ.n ?_
  refine J.seq ?_
  refine J.region_lit ?_
  refine JL.q rfl rfl rfl (QW.move (.tmp rfl)) ?_
  refine JL.q rfl rfl rfl (QW.ext (extFrom _) (.tmp rfl)) ?_
  refine JL.q rfl rfl rfl (QW.move (.tmp rfl)) ?_
  refine JL.q rfl rfl rfl (QW.ext (extFrom _) (.tmp rfl)) ?_
  refine JL.farith (by decide) (.tmp rfl) (.tmp rfl) rfl fun x9 h9 => ?_
  have hlt : x9 < 2 ^ 64 := h9.elim (fun h => (farith_some h).2) (fun h => nanAny_lt h.2)
  refine JL.q rfl rfl rfl (QW.call gofn40 (.cons (.tmp rfl) .nil) (by (apply rof_ok <;> first | assumption | omega))) ?_
  refine JL.q rfl rfl rfl (QW.assign (.tmp rfl)) ?_
  refine JL.nil ?_
  refine thenQ.n ?_
  refine J.ret ?_
  exact ⟨_, [], _, RetEv.one rfl (REv.tmp rfl (.refl _)), rfl, List.Perm.refl _, by rw [arith_canon h9], rfl⟩


theorem rmul_ok (a b : Nat) : Fn Try.prog 21 [.c (.int .u64 (a : Int)), .c (.int .u64 (b : Int))] (.c (.int .u64 (arithN .mul a b : Int))) := by
  refine AC.of_J Try.func21 rfl Try.ntmps21 rfl fun w0 A0 => ?_
  refine J.seq ?_
  refine J.region_lit ?_
  refine JL.q rfl rfl rfl (QW.assign .const) ?_
  refine JL.nil ?_
  refine thenQ.n ?_
  refine J.seq ?_
  refine J.region_lit ?_
  refine JL.q rfl rfl rfl (QW.move (.tmp rfl)) ?_
  refine JL.q rfl rfl rfl (QW.ext (extFrom _) (.tmp rfl)) ?_
  refine JL.q rfl rfl rfl (QW.move (.tmp rfl)) ?_
  refine JL.q rfl rfl rfl (QW.ext (extFrom _) (.tmp rfl)) ?_
  refine JL.farith (by decide) (.tmp rfl) (.tmp rfl) rfl fun x9 h9 => ?_
  have hlt : x9 < 2 ^ 64 := h9.elim (fun h => (farith_some h).2) (fun h => nanAny_lt h.2)
  refine JL.q rfl rfl rfl (QW.call gofn40 (.cons (.tmp rfl) .nil) (by (apply rof_ok <;> first | assumption | omega))) ?_
  refine JL.q rfl rfl rfl (QW.assign (.tmp rfl)) ?_
  refine JL.nil ?_
  refine thenQ.n ?_
  refine J.ret ?_
  exact ⟨_, [], _, RetEv.one rfl (REv.tmp rfl (.refl _)), rfl, List.Perm.refl _, by rw [arith_canon h9], rfl⟩


theorem rquo_ok (a b : Nat) : Fn Try.prog 23 [.c (.int .u64 (a : Int)), .c (.int .u64 (b : Int))] (.c (.int .u64 (arithN .quo a b : Int))) := by
  refine AC.of_J Try.func23 rfl Try.ntmps23 rfl fun w0 A0 => ?_
  refine J.seq ?_
  refine J.region_lit ?_
  refine JL.q rfl rfl rfl (QW.assign .const) ?_
  refine JL.nil ?_
  refine thenQ.n ?_
  refine J.seq ?_
  refine J.region_lit ?_
  refine JL.q rfl rfl rfl (QW.move (.tmp rfl)) ?_
  refine JL.q rfl rfl rfl (QW.ext (extFrom _) (.tmp rfl)) ?_
  refine JL.q rfl rfl rfl (QW.move (.tmp rfl)) ?_
  refine JL.q rfl rfl rfl (QW.ext (extFrom _) (.tmp rfl)) ?_
  refine JL.farith (by decide) (.tmp rfl) (.tmp rfl) rfl fun x9 h9 => ?_
  have hlt : x9 < 2 ^ 64 := h9.elim (fun h => (farith_some h).2) (fun h => nanAny_lt h.2)
  refine JL.q rfl rfl rfl (QW.call gofn40 (.cons (.tmp rfl) .nil) (by (apply rof_ok <;> first | assumption | omega))) ?_
  refine JL.q rfl rfl rfl (QW.assign (.tmp rfl)) ?_
  refine JL.nil ?_
  refine thenQ.n ?_
  refine J.ret ?_
  exact ⟨_, [], _, RetEv.one rfl (REv.tmp rfl (.refl _)), rfl, List.Perm.refl _, by rw [arith_canon h9], rfl⟩


theorem floatReckons_ok (a b : Nat) (ha : a < 2 ^ 64) (hb : b < 2 ^ 64) : Fn Try.prog 5 [.c (.int .u64 (a : Int)), .c (.int .u64 (b : Int))] (.c (.bool true)) := by
  refine AC.of_J Try.func5 rfl Try.ntmps5 rfl fun w0 A0 => ?_
  refine J.seq ?_
  refine J.region_lit ?_
  refine JL.q rfl rfl rfl (QW.assign .const) ?_
  refine JL.nil ?_
  refine thenQ.n ?_
  refine J.seq ?_
  refine J.region_lit ?_
  refine JL.q rfl rfl rfl (QW.move (.tmp rfl)) ?_
  refine JL.q rfl rfl rfl (QW.move (.tmp rfl)) ?_
  refine JL.q rfl rfl rfl (QW.call gofn16 (.cons (.tmp rfl) (.cons (.tmp rfl) .nil)) (by (apply add_ok <;> first | assumption | omega))) ?_
  refine JL.q rfl rfl rfl (QW.move (.tmp rfl)) ?_
  refine JL.q rfl rfl rfl (QW.move (.tmp rfl)) ?_
  refine JL.q rfl rfl rfl (QW.call gofn17 (.cons (.tmp rfl) (.cons (.tmp rfl) .nil)) (by (apply radd_ok <;> first | assumption | omega))) ?_
  refine JL.q rfl rfl rfl (QW.eql (.tmp rfl) (.tmp rfl)) ?_
  refine JL.q rfl rfl rfl (QW.move (.tmp rfl)) ?_
  refine JL.g rfl rfl rfl rfl rfl (fun hg => (QW.move (.tmp rfl))) ?_
  refine JL.g rfl rfl rfl rfl rfl (fun hg => (QW.move (.tmp rfl))) ?_
  refine JL.g rfl rfl rfl rfl rfl (fun hg => (QW.call gofn18 (.cons (.when rfl hg) (.cons (.when rfl hg) .nil)) (by (apply sub_ok <;> first | assumption | omega)))) ?_
  refine JL.g rfl rfl rfl rfl rfl (fun hg => (QW.move (.tmp rfl))) ?_
  refine JL.g rfl rfl rfl rfl rfl (fun hg => (QW.move (.tmp rfl))) ?_
  refine JL.g rfl rfl rfl rfl rfl (fun hg => (QW.call gofn19 (.cons (.when rfl hg) (.cons (.when rfl hg) .nil)) (by (apply rsub_ok <;> first | assumption | omega)))) ?_
  refine JL.g rfl rfl rfl rfl rfl (fun hg => (QW.eql (.when rfl hg) (.when rfl hg))) ?_
  refine JL.q rfl rfl rfl (QW.pick_and (.tmp rfl) (.tmp rfl)) ?_
  refine JL.q rfl rfl rfl (QW.move (.tmp rfl)) ?_
  refine JL.g rfl rfl rfl rfl rfl (fun hg => (QW.move (.tmp rfl))) ?_
  refine JL.g rfl rfl rfl rfl rfl (fun hg => (QW.move (.tmp rfl))) ?_
  refine JL.g rfl rfl rfl rfl rfl (fun hg => (QW.call gofn20 (.cons (.when rfl hg) (.cons (.when rfl hg) .nil)) (by (apply mul_ok <;> first | assumption | omega)))) ?_
  refine JL.g rfl rfl rfl rfl rfl (fun hg => (QW.move (.tmp rfl))) ?_
  refine JL.g rfl rfl rfl rfl rfl (fun hg => (QW.move (.tmp rfl))) ?_
  refine JL.g rfl rfl rfl rfl rfl (fun hg => (QW.call gofn21 (.cons (.when rfl hg) (.cons (.when rfl hg) .nil)) (by (apply rmul_ok <;> first | assumption | omega)))) ?_
  refine JL.g rfl rfl rfl rfl rfl (fun hg => (QW.eql (.when rfl hg) (.when rfl hg))) ?_
  refine JL.q rfl rfl rfl (QW.pick_and (.tmp rfl) (.tmp rfl)) ?_
  refine JL.q rfl rfl rfl (QW.move (.tmp rfl)) ?_
  refine JL.g rfl rfl rfl rfl rfl (fun hg => (QW.move (.tmp rfl))) ?_
  refine JL.g rfl rfl rfl rfl rfl (fun hg => (QW.move (.tmp rfl))) ?_
  refine JL.g rfl rfl rfl rfl rfl (fun hg => (QW.call gofn22 (.cons (.when rfl hg) (.cons (.when rfl hg) .nil)) (by (apply quo_ok <;> first | assumption | omega)))) ?_
  refine JL.g rfl rfl rfl rfl rfl (fun hg => (QW.move (.tmp rfl))) ?_
  refine JL.g rfl rfl rfl rfl rfl (fun hg => (QW.move (.tmp rfl))) ?_
  refine JL.g rfl rfl rfl rfl rfl (fun hg => (QW.call gofn23 (.cons (.when rfl hg) (.cons (.when rfl hg) .nil)) (by (apply rquo_ok <;> first | assumption | omega)))) ?_
  refine JL.g rfl rfl rfl rfl rfl (fun hg => (QW.eql (.when rfl hg) (.when rfl hg))) ?_
  refine JL.q rfl rfl rfl (QW.pick_and (.tmp rfl) (.tmp rfl)) ?_
  refine JL.q rfl rfl rfl (QW.move (.tmp rfl)) ?_
  refine JL.g rfl rfl rfl rfl rfl (fun hg => (QW.call gofn11 .nil (by (apply alive01_ok <;> first | assumption | omega)))) ?_
  refine JL.q rfl rfl rfl (QW.pick_and (.tmp rfl) (.tmp rfl)) ?_
  refine JL.q rfl rfl rfl (QW.assign (.tmp rfl)) ?_
  refine JL.nil ?_
  refine thenQ.n ?_
  refine J.ret ?_
  exact ⟨_, [], _, RetEv.one rfl (REv.tmp rfl (.refl _)), rfl, List.Perm.refl _, ret_bool (by simp), rfl⟩

end Go.Proofs.Ytppoepenmpcbnaa.J
