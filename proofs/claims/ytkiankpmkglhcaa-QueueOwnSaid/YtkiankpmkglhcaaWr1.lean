/- Walks: the page's own classes of numbers (the package fanlightref01), for the seats that reach no more of it. -/
import Derived.Test.YtkiankpmkglhcaaWf1
namespace Go.Proofs.Ytkiankpmkglhcaa.J
open Go Go.RowKit
set_option linter.unusedVariables false
set_option linter.unusedSimpArgs false
set_option maxRecDepth 10000
set_option maxHeartbeats 4000000

theorem class_nan {b : Nat} : classN b = 5 ↔ isNan b = true := by
  unfold classN
  cases isNan b with
  | true => simp
  | false =>
    simp only [Bool.false_eq_true, if_false, iff_false]
    (repeat' split) <;> omega
def expN (b : Nat) : Nat := b / 2 ^ 52 % 2048
def fracN (b : Nat) : Nat := b % 2 ^ 52
theorem and_mask2 {b : Nat} (k : Nat) (hb : b < 2 ^ 64) (hk : 2 ^ k - 1 < 2 ^ 64) : bitsOp .and .u64 (b : Int) ((2 ^ k - 1 : Nat) : Int) = ((b % 2 ^ k : Nat) : Int) := by
  rw [bits_and b _ hb hk, Nat.and_two_pow_sub_one_eq_mod]
theorem frac_bits {b : Nat} (hb : b < 2 ^ 64) : bitsOp .and .u64 (b : Int) 4503599627370495 = (fracN b : Int) := and_mask2 52 hb (by decide)
theorem exp_bits {b : Nat} (hb : b < 2 ^ 64) : bitsOp .and .u64 ((b / 2 ^ 52 : Nat) : Int) 2047 = (expN b : Int) := and_mask2 11 (by omega) (by decide)
theorem rung_fields (b : Nat) : rung b = expN b * 2 ^ 52 + fracN b := by unfold rung expN fracN; omega
theorem exp_lt (b : Nat) : expN b < 2048 := Nat.mod_lt _ (by decide)
theorem frac_lt (b : Nat) : fracN b < 2 ^ 52 := Nat.mod_lt _ (by decide)
theorem nan_fields (b : Nat) : isNan b = true ↔ expN b = 2047 ∧ fracN b ≠ 0 := by
  rw [isNan_eq, decide_eq_true_eq, rung_fields]
  have h1 := exp_lt b
  have h2 := frac_lt b
  unfold infR
  omega
theorem canon_lt {b : Nat} (h : b < 2 ^ 64) : canonN b < 2 ^ 64 := by unfold canonN oneNan; split <;> omega
theorem nanAny_lt {c : Nat} (h : nanAny c) : c < 2 ^ 64 := by
  obtain ⟨t, rfl⟩ := h
  have h1 := Nat.mod_lt t (show 0 < 2 by decide)
  have h2 := Nat.mod_lt (t / 2) (show 0 < 2 ^ 52 - 1 by decide)
  omega
theorem class_two {b : Nat} (hb : b < 2 ^ 64) : classN b =
    if expN b = 2047 ∧ fracN b ≠ 0 then 5 else if expN b = 2047 then 4 else if 0 < expN b then 3 else if 0 < fracN b then 2 else if b = 2 ^ 63 then 1 else 0 := by
  have h := nan_fields b
  have h1 := exp_lt b
  have h2 := frac_lt b
  have h3 := rung_fields b
  have h4 : b = 2 ^ 63 ↔ (rung b = 0 ∧ 2 ^ 63 ≤ b) := by unfold rung; omega
  unfold classN
  unfold infR
  cases hn : isNan b with
  | true => rw [if_pos rfl, if_pos (h.1 hn)]
  | false =>
    rw [hn] at h
    have h' : ¬ (expN b = 2047 ∧ fracN b ≠ 0) := fun e => by have := h.2 e; cases this
    rw [if_neg (by decide), if_neg h']
    repeat' split
    all_goals first | rfl | omega


theorem rexp_ok (b : Nat) (hb : b < 2 ^ 64) : Fn Try.prog 145 [.c (.int .u64 (b : Int))] (.c (.int .i64 (expN b : Int))) := by
  refine AC.of_J Try.func145 rfl Try.ntmps145 rfl fun w0 A0 => ?_
  refine J.seq ?_
  refine J.region_lit ?_
  refine JL.q rfl rfl rfl (QW.assign .const) ?_
  refine JL.nil ?_
  refine thenQ.n ?_
  refine J.seq ?_
  refine J.region_lit ?_
  refine JL.q rfl rfl rfl (QW.move (.tmp rfl)) ?_
  refine JL.q rfl rfl rfl (QW.shr (c := ((b / 2 ^ 52 : Nat) : Int)) (.tmp rfl) .const (by decide) (shr_nat b 52)) ?_
  refine JL.q rfl rfl rfl (QW.and (.tmp rfl) .const (exp_bits hb)) ?_
  refine JL.q rfl rfl rfl (QW.conv_int (c := (expN b : Int)) us22 iu3 (.tmp rfl) (w64 (by have := exp_lt b; omega))) ?_
  refine JL.q rfl rfl rfl (QW.assign (.tmp rfl)) ?_
  refine JL.nil ?_
  refine thenQ.n ?_
  refine J.ret ?_
  exact ⟨_, [], _, RetEv.one rfl (REv.tmp rfl (.refl _)), rfl, List.Perm.refl _, rfl, rfl⟩


theorem rfrac_ok (b : Nat) (hb : b < 2 ^ 64) : Fn Try.prog 146 [.c (.int .u64 (b : Int))] (.c (.int .u64 (fracN b : Int))) := by
  refine AC.of_J Try.func146 rfl Try.ntmps146 rfl fun w0 A0 => ?_
  refine J.seq ?_
  refine J.region_lit ?_
  refine JL.q rfl rfl rfl (QW.assign .const) ?_
  refine JL.nil ?_
  refine thenQ.n ?_
  refine J.seq ?_
  refine J.region_lit ?_
  refine JL.q rfl rfl rfl (QW.move (.tmp rfl)) ?_
  refine JL.q rfl rfl rfl (QW.and (.tmp rfl) .const (frac_bits hb)) ?_
  refine JL.q rfl rfl rfl (QW.assign (.tmp rfl)) ?_
  refine JL.nil ?_
  refine thenQ.n ?_
  refine J.ret ?_
  exact ⟨_, [], _, RetEv.one rfl (REv.tmp rfl (.refl _)), rfl, List.Perm.refl _, rfl, rfl⟩


theorem rclass_ok (b : Nat) (hb : b < 2 ^ 64) : Fn Try.prog 141 [.c (.int .u64 (b : Int))] (.c (.int .i64 (classN b))) := by
  refine AC.of_J Try.func141 rfl Try.ntmps141 rfl fun w0 A0 => ?_
  refine J.seq ?_
  refine J.region_lit ?_
  refine JL.q rfl rfl rfl (QW.assign .const) ?_
  refine JL.nil ?_
  refine thenQ.n ?_
  refine J.seq ?_
  refine J.block ?_
  refine J.seq ?_
  refine J.region_lit ?_
  refine JL.q rfl rfl rfl (QW.move (.tmp rfl)) ?_
  refine JL.q rfl rfl rfl (QW.call gofn145 (.cons (.tmp rfl) .nil) (by (apply rexp_ok <;> first | assumption | omega))) ?_
  refine JL.q rfl rfl rfl (QW.eql (.tmp rfl) .const) ?_
  refine JL.q rfl rfl rfl (QW.move (.tmp rfl)) ?_
  refine JL.g rfl rfl rfl rfl rfl (fun hg => (QW.move (.tmp rfl))) ?_
  refine JL.g rfl rfl rfl rfl rfl (fun hg => (QW.call gofn146 (.cons (.when rfl hg) .nil) (by (apply rfrac_ok <;> first | assumption | omega)))) ?_
  refine JL.g rfl rfl rfl rfl rfl (fun hg => (QW.neq (.when rfl hg) .const)) ?_
  refine JL.q rfl rfl rfl (QW.pick_and (.tmp rfl) (.tmp rfl)) ?_
  refine JL.q rfl rfl rfl (QW.assign (.tmp rfl)) ?_
  refine JL.nil ?_
  refine thenQ.n ?_
  refine J.cond (.tmp rfl) (fun c1 => ?_) (fun c1 => ?_)
  ·
    simp at c1
    refine J.seq ?_
    refine J.region_lit ?_
    refine JL.q rfl rfl rfl (QW.assign .const) ?_
    refine JL.nil ?_
    refine thenQ.n ?_
    refine J.ret ?_
    refine blkQ.r ?_
    refine thenQ.r ?_
    exact ⟨_, [], _, RetEv.one rfl (REv.tmp rfl (.refl _)), rfl, List.Perm.refl _, by rw [class_two hb, if_pos (by omega)], rfl⟩
  ·
    simp at c1
    refine J.seq ?_
    refine J.region_lit ?_
    refine JL.q rfl rfl rfl (QW.move (.tmp rfl)) ?_
    refine JL.q rfl rfl rfl (QW.call gofn145 (.cons (.tmp rfl) .nil) (by (apply rexp_ok <;> first | assumption | omega))) ?_
    refine JL.q rfl rfl rfl (QW.eql (.tmp rfl) .const) ?_
    refine JL.q rfl rfl rfl (QW.assign (.tmp rfl)) ?_
    refine JL.nil ?_
    refine thenQ.n ?_
    refine J.cond (.tmp rfl) (fun c2 => ?_) (fun c2 => ?_)
    ·
      simp at c2
      refine J.seq ?_
      refine J.region_lit ?_
      refine JL.q rfl rfl rfl (QW.assign .const) ?_
      refine JL.nil ?_
      refine thenQ.n ?_
      refine J.ret ?_
      refine blkQ.r ?_
      refine thenQ.r ?_
      exact ⟨_, [], _, RetEv.one rfl (REv.tmp rfl (.refl _)), rfl, List.Perm.refl _, by rw [class_two hb, if_neg (by omega), if_pos (by omega)], rfl⟩
    ·
      simp at c2
      refine J.seq ?_
      refine J.region_lit ?_
      refine JL.q rfl rfl rfl (QW.move (.tmp rfl)) ?_
      refine JL.q rfl rfl rfl (QW.call gofn145 (.cons (.tmp rfl) .nil) (by (apply rexp_ok <;> first | assumption | omega))) ?_
      refine JL.q rfl rfl rfl (QW.gtr (.tmp rfl) .const) ?_
      refine JL.q rfl rfl rfl (QW.assign (.tmp rfl)) ?_
      refine JL.nil ?_
      refine thenQ.n ?_
      refine J.cond (.tmp rfl) (fun c3 => ?_) (fun c3 => ?_)
      ·
        simp at c3
        refine J.seq ?_
        refine J.region_lit ?_
        refine JL.q rfl rfl rfl (QW.assign .const) ?_
        refine JL.nil ?_
        refine thenQ.n ?_
        refine J.ret ?_
        refine blkQ.r ?_
        refine thenQ.r ?_
        exact ⟨_, [], _, RetEv.one rfl (REv.tmp rfl (.refl _)), rfl, List.Perm.refl _, by rw [class_two hb, if_neg (by omega), if_neg (by omega), if_pos (by omega)], rfl⟩
      ·
        simp at c3
        refine J.seq ?_
        refine J.region_lit ?_
        refine JL.q rfl rfl rfl (QW.move (.tmp rfl)) ?_
        refine JL.q rfl rfl rfl (QW.call gofn146 (.cons (.tmp rfl) .nil) (by (apply rfrac_ok <;> first | assumption | omega))) ?_
        refine JL.q rfl rfl rfl (QW.gtr (.tmp rfl) .const) ?_
        refine JL.q rfl rfl rfl (QW.assign (.tmp rfl)) ?_
        refine JL.nil ?_
        refine thenQ.n ?_
        refine J.cond (.tmp rfl) (fun c4 => ?_) (fun c4 => ?_)
        ·
          simp at c4
          refine J.seq ?_
          refine J.region_lit ?_
          refine JL.q rfl rfl rfl (QW.assign .const) ?_
          refine JL.nil ?_
          refine thenQ.n ?_
          refine J.ret ?_
          refine blkQ.r ?_
          refine thenQ.r ?_
          exact ⟨_, [], _, RetEv.one rfl (REv.tmp rfl (.refl _)), rfl, List.Perm.refl _, by rw [class_two hb, if_neg (by omega), if_neg (by omega), if_neg (by omega), if_pos (by omega)], rfl⟩
        ·
          simp at c4
          refine J.seq ?_
          refine J.region_lit ?_
          refine JL.q rfl rfl rfl (QW.move (.tmp rfl)) ?_
          refine JL.q rfl rfl rfl (QW.eql (.tmp rfl) .const) ?_
          refine JL.q rfl rfl rfl (QW.assign (.tmp rfl)) ?_
          refine JL.nil ?_
          refine thenQ.n ?_
          refine J.cond (.tmp rfl) (fun c5 => ?_) (fun c5 => ?_)
          ·
            simp at c5
            refine J.seq ?_
            refine J.region_lit ?_
            refine JL.q rfl rfl rfl (QW.assign .const) ?_
            refine JL.nil ?_
            refine thenQ.n ?_
            refine J.ret ?_
            refine blkQ.r ?_
            refine thenQ.r ?_
            exact ⟨_, [], _, RetEv.one rfl (REv.tmp rfl (.refl _)), rfl, List.Perm.refl _, by rw [class_two hb, if_neg (by omega), if_neg (by omega), if_neg (by omega), if_neg (by omega), if_pos (by omega)], rfl⟩
          ·
            simp at c5
            refine J.skip ?_
            refine blkQ.n ?_
            refine thenQ.n ?_
            refine J.seq ?_
            refine J.region_lit ?_
            refine JL.q rfl rfl rfl (QW.assign .const) ?_
            refine JL.nil ?_
            refine thenQ.n ?_
            refine J.ret ?_
            exact ⟨_, [], _, RetEv.one rfl (REv.tmp rfl (.refl _)), rfl, List.Perm.refl _, by rw [class_two hb, if_neg (by omega), if_neg (by omega), if_neg (by omega), if_neg (by omega), if_neg (by omega)], rfl⟩


theorem rcanon_ok (b : Nat) (hb : b < 2 ^ 64) : Fn Try.prog 130 [.c (.int .u64 (b : Int))] (.c (.int .u64 (canonN b : Int))) := by
  refine AC.of_J Try.func130 rfl Try.ntmps130 rfl fun w0 A0 => ?_
  refine J.seq ?_
  refine J.region_lit ?_
  refine JL.q rfl rfl rfl (QW.assign .const) ?_
  refine JL.nil ?_
  refine thenQ.n ?_
  refine J.seq ?_
  refine J.seq ?_
  refine J.region_lit ?_
  refine JL.q rfl rfl rfl (QW.move (.tmp rfl)) ?_
  refine JL.q rfl rfl rfl (QW.call gofn141 (.cons (.tmp rfl) .nil) (by (apply rclass_ok <;> first | assumption | omega))) ?_
  refine JL.q rfl rfl rfl (QW.eql (.tmp rfl) .const) ?_
  refine JL.nil ?_
  refine thenQ.n ?_
  refine J.cond (.tmp rfl) (fun c1 => ?_) (fun c1 => ?_)
  ·
    simp at c1
    refine J.seq ?_
    refine J.region_lit ?_
    refine JL.q rfl rfl rfl (QW.assign .const) ?_
    refine JL.nil ?_
    refine thenQ.n ?_
    refine J.ret ?_
    refine thenQ.r ?_
    exact ⟨_, [], _, RetEv.one rfl (REv.tmp rfl (.refl _)), rfl, List.Perm.refl _, by simp [canonN, class_nan.1 (show classN b = 5 by omega)]; rfl, rfl⟩
  ·
    simp at c1
    refine J.skip ?_
    refine thenQ.n ?_
    refine J.seq ?_
    refine J.region_lit ?_
    refine JL.q rfl rfl rfl (QW.move (.tmp rfl)) ?_
    refine JL.q rfl rfl rfl (QW.assign (.tmp rfl)) ?_
    refine JL.nil ?_
    refine thenQ.n ?_
    refine J.ret ?_
    exact ⟨_, [], _, RetEv.one rfl (REv.tmp rfl (.refl _)), rfl, List.Perm.refl _, by unfold canonN; rw [if_neg (fun h => c1 (by rw [class_nan.2 h]))], rfl⟩

end Go.Proofs.Ytkiankpmkglhcaa.J
