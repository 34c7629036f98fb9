/- Walks of the laws of layer 1: FloatOrders, FloatTurns. -/
import Derived.Test.YtppoepenmpcbnaaWl01
namespace Go.Proofs.Ytppoepenmpcbnaa.J
open Go Go.RowKit
set_option linter.unusedVariables false
set_option linter.unusedSimpArgs false
set_option maxRecDepth 10000
set_option maxHeartbeats 4000000

theorem order_sr {a : Nat} (ha : a < 2 ^ 64) (h : isNan a = false) : (orderN a : Int) = if 2 ^ 63 ≤ a then 2 ^ 63 - 1 + sr a else 2 ^ 63 + sr a := by
  rw [isNan_eq] at h
  have h : rung a ≤ infR := by simpa using h
  unfold orderN sr
  rw [isNan_eq, decide_eq_false (by omega)]
  simp only [Bool.false_eq_true, if_false]
  have hs : sgn a = decide (2 ^ 63 ≤ a) := by
    unfold sgn
    by_cases h1 : 2 ^ 63 ≤ a
    · rw [show a / 2 ^ 63 = 1 by omega]; simp; omega
    · rw [show a / 2 ^ 63 = 0 by omega]; simp; omega
  rw [hs]
  unfold rung at *
  by_cases h1 : 2 ^ 63 ≤ a
  · simp only [h1, decide_true, if_true]; omega
  · simp only [h1, decide_false, if_false, Bool.false_eq_true]; omega
theorem order_inj {a b : Nat} (ha : a < 2 ^ 64) (hb : b < 2 ^ 64) : ((orderN a : Int) == (orderN b : Int)) = ((canonN a : Int) == (canonN b : Int)) := by
  have h : orderN a = orderN b ↔ canonN a = canonN b := by
    unfold orderN canonN
    have o1 : isNan oneNan = true := by decide
    cases h1 : isNan a <;> cases h2 : isNan b <;> simp only [if_true, if_false, Bool.false_eq_true]
    · rw [isNan_eq] at h1 h2; simp at h1 h2
      unfold rung infR at *
      (repeat' split) <;> omega
    · constructor
      · intro h
        rw [isNan_eq] at h1; simp at h1
        unfold rung infR at *
        split at h <;> omega
      · intro h; rw [h, o1] at h1; cases h1
    · constructor
      · intro h
        rw [isNan_eq] at h2; simp at h2
        unfold rung infR at *
        split at h <;> omega
      · intro h; rw [← h, o1] at h2; cases h2
  rw [Bool.eq_iff_iff]; simp; omega
theorem orders1 {a b c : Nat} (ha : a < 2 ^ 64) (hb : b < 2 ^ 64) : ((!(((orderN a : Int) == (orderN b : Int)) == ((canonN a : Int) == (canonN b : Int)))) || ((decide ((orderN a : Int) < orderN b) && decide ((orderN b : Int) < orderN c)) && decide ((orderN c : Int) ≤ orderN a))) = false := by
  rw [order_inj ha hb]; simp; omega
theorem order_lt {a : Nat} (ha : a < 2 ^ 64) : orderN a ≤ 2 ^ 64 - 1 := by unfold orderN; (repeat' split) <;> omega
theorem ford_ge {x y : Nat} (hx : isNan x = false) (hy : isNan y = false) : (ford x y == some .gt || ford x y == some .eq) = decide (sr y ≤ sr x) := by
  rw [ford_gt hx hy, ford_eql hx hy, Bool.eq_iff_iff]; simp; omega


theorem floatOrders_ok (a b c : Nat) (ha : a < 2 ^ 64) (hb : b < 2 ^ 64) (hc : c < 2 ^ 64) : Fn Try.prog 4 [.c (.int .u64 (a : Int)), .c (.int .u64 (b : Int)), .c (.int .u64 (c : Int))] (.c (.bool true)) := by
  refine AC.of_J Try.func4 rfl Try.ntmps4 rfl fun w0 A0 => ?_
  refine J.seq ?_
  refine J.region_lit ?_
  refine JL.q rfl rfl rfl (QW.assign .const) ?_
  refine JL.nil ?_
  refine thenQ.n ?_
  refine J.seq ?_
  refine J.seq ?_
  refine J.region_lit ?_
  refine JL.q rfl rfl rfl (QW.call gofn11 .nil (by (apply alive01_ok <;> first | assumption | omega))) ?_
  refine JL.q rfl rfl rfl (QW.not (.tmp rfl)) ?_
  refine JL.nil ?_
  refine thenQ.n ?_
  refine J.cond (.tmp rfl) (fun c1 => absurd c1 (by decide)) (fun c1 => ?_)
  refine J.skip ?_
  refine thenQ.n ?_
  refine J.seq ?_
  refine J.region_lit ?_
  refine JL.q rfl rfl rfl (QW.move (.tmp rfl)) ?_
  refine JL.q rfl rfl rfl (QW.call gofn13 (.cons (.tmp rfl) .nil) (by (apply order_ok <;> first | assumption | omega))) ?_
  refine JL.q rfl rfl rfl (QW.move (.tmp rfl)) ?_
  refine JL.q rfl rfl rfl (QW.call gofn13 (.cons (.tmp rfl) .nil) (by (apply order_ok <;> first | assumption | omega))) ?_
  refine JL.q rfl rfl rfl (QW.move (.tmp rfl)) ?_
  refine JL.q rfl rfl rfl (QW.call gofn13 (.cons (.tmp rfl) .nil) (by (apply order_ok <;> first | assumption | omega))) ?_
  refine JL.q rfl rfl rfl (QW.assign (.tmp rfl)) ?_
  refine JL.q rfl rfl rfl (QW.assign (.tmp rfl)) ?_
  refine JL.q rfl rfl rfl (QW.assign (.tmp rfl)) ?_
  refine JL.nil ?_
  refine thenQ.n ?_
  refine J.seq ?_
  refine J.seq ?_
  refine J.region_lit ?_
  refine JL.q rfl rfl rfl (QW.move (.tmp rfl)) ?_
  refine JL.q rfl rfl rfl (QW.move (.tmp rfl)) ?_
  refine JL.q rfl rfl rfl (QW.eql (.tmp rfl) (.tmp rfl)) ?_
  refine JL.q rfl rfl rfl (QW.move (.tmp rfl)) ?_
  refine JL.q rfl rfl rfl (QW.call gofn14 (.cons (.tmp rfl) .nil) (by (apply canon_ok <;> first | assumption | omega))) ?_
  refine JL.q rfl rfl rfl (QW.move (.tmp rfl)) ?_
  refine JL.q rfl rfl rfl (QW.call gofn14 (.cons (.tmp rfl) .nil) (by (apply canon_ok <;> first | assumption | omega))) ?_
  refine JL.q rfl rfl rfl (QW.eql (.tmp rfl) (.tmp rfl)) ?_
  refine JL.q rfl rfl rfl (QW.neq_b bo4 (.tmp rfl) (.tmp rfl)) ?_
  refine JL.q rfl rfl rfl (QW.move (.tmp rfl)) ?_
  refine JL.g rfl rfl rfl rfl rfl (fun hg => (QW.move (.tmp rfl))) ?_
  refine JL.g rfl rfl rfl rfl rfl (fun hg => (QW.move (.tmp rfl))) ?_
  refine JL.g rfl rfl rfl rfl rfl (fun hg => (QW.lss (.when rfl hg) (.when rfl hg))) ?_
  refine JL.g rfl rfl rfl rfl rfl (fun hg => (QW.move (.when rfl hg))) ?_
  refine JL.gg rfl rfl rfl rfl rfl (fun hg => (QW.move (.tmp rfl))) ?_
  refine JL.gg rfl rfl rfl rfl rfl (fun hg => (QW.move (.tmp rfl))) ?_
  refine JL.gg rfl rfl rfl rfl rfl (fun hg => (QW.lss (.when rfl hg) (.when rfl hg))) ?_
  refine JL.g rfl rfl rfl rfl rfl (fun hg => (by first | exact QW.pick_and (.when rfl hg) (.tmp rfl) | exact QW.pick_and2 hg (.when rfl hg) (.tmp rfl))) ?_
  refine JL.g rfl rfl rfl rfl rfl (fun hg => (QW.move (.when rfl hg))) ?_
  refine JL.gg rfl rfl rfl rfl rfl (fun hg => (QW.move (.tmp rfl))) ?_
  refine JL.gg rfl rfl rfl rfl rfl (fun hg => (QW.move (.tmp rfl))) ?_
  refine JL.gg rfl rfl rfl rfl rfl (fun hg => (QW.geq (.when rfl hg) (.when rfl hg))) ?_
  refine JL.g rfl rfl rfl rfl rfl (fun hg => (by first | exact QW.pick_and (.when rfl hg) (.tmp rfl) | exact QW.pick_and2 hg (.when rfl hg) (.tmp rfl))) ?_
  refine JL.q rfl rfl rfl (QW.pick_or (.tmp rfl) (.tmp rfl)) ?_
  refine JL.nil ?_
  refine thenQ.n ?_
  refine J.cond (.tmp rfl) (fun c2 => absurd c2 (by rw [Bool.not_eq_true]; exact orders1 ha hb)) (fun c2 => ?_)
  refine J.skip ?_
  refine thenQ.n ?_
  refine J.seq ?_
  refine J.seq ?_
  refine J.region_lit ?_
  refine JL.q rfl rfl rfl (QW.move (.tmp rfl)) ?_
  refine JL.q rfl rfl rfl (QW.call gofn12 (.cons (.tmp rfl) .nil) (by (apply class_ok <;> first | assumption | omega))) ?_
  refine JL.q rfl rfl rfl (QW.eql (.tmp rfl) .const) ?_
  refine JL.q rfl rfl rfl (QW.move (.tmp rfl)) ?_
  refine JL.g rfl rfl rfl rfl rfl (fun hg => (QW.move (.tmp rfl))) ?_
  refine JL.g rfl rfl rfl rfl rfl (fun hg => (QW.call gofn12 (.cons (.when rfl hg) .nil) (by (apply class_ok <;> first | assumption | omega)))) ?_
  refine JL.g rfl rfl rfl rfl rfl (fun hg => (QW.eql (.when rfl hg) .const)) ?_
  refine JL.q rfl rfl rfl (QW.pick_or (.tmp rfl) (.tmp rfl)) ?_
  refine JL.nil ?_
  refine thenQ.n ?_
  refine J.cond (.tmp rfl) (fun c3 => ?_) (fun c3 => ?_)
  ·
    simp at c3
    refine J.seq ?_
    refine J.region_lit ?_
    refine JL.q rfl rfl rfl (QW.move (.tmp rfl)) ?_
    refine JL.q rfl rfl rfl (QW.call gofn12 (.cons (.tmp rfl) .nil) (by (apply class_ok <;> first | assumption | omega))) ?_
    refine JL.q rfl rfl rfl (QW.neq (.tmp rfl) .const) ?_
    refine JL.q rfl rfl rfl (QW.move (.tmp rfl)) ?_
    refine JL.g rfl rfl rfl rfl rfl (fun hg => (QW.move (.tmp rfl))) ?_
    refine JL.g rfl rfl rfl rfl rfl (fun hg => (QW.move (.tmp rfl))) ?_
    refine JL.g rfl rfl rfl rfl rfl (fun hg => (QW.geq (.when rfl hg) (.when rfl hg))) ?_
    refine JL.q rfl rfl rfl (QW.pick_or (.tmp rfl) (.tmp rfl)) ?_
    refine JL.q rfl rfl rfl (QW.assign (.tmp rfl)) ?_
    refine JL.nil ?_
    refine thenQ.n ?_
    refine J.ret ?_
    refine thenQ.r ?_
    exact ⟨_, [], _, RetEv.one rfl (REv.tmp rfl (.refl _)), rfl, List.Perm.refl _, ret_bool (by
        have h1 := order_lt ha
        have h2 := order_lt hb
        by_cases hn : classN a = 5
        · have h3 : orderN a = 2 ^ 64 - 1 := by rw [class_nan] at hn; simp [orderN, hn]
          simp [hn]; omega
        · simp; left; omega), rfl⟩
  ·
    simp at c3
    refine J.skip ?_
    refine thenQ.n ?_
    refine J.seq ?_
    refine J.region_lit ?_
    refine JL.q rfl rfl rfl (QW.move (.tmp rfl)) ?_
    refine JL.q rfl rfl rfl (QW.ext (extFrom _) (.tmp rfl)) ?_
    refine JL.q rfl rfl rfl (QW.move (.tmp rfl)) ?_
    refine JL.q rfl rfl rfl (QW.ext (extFrom _) (.tmp rfl)) ?_
    refine JL.q rfl rfl rfl (QW.geq_f (.tmp rfl) (.tmp rfl)) ?_
    refine JL.q rfl rfl rfl (QW.move (.tmp rfl)) ?_
    refine JL.g rfl rfl rfl rfl rfl (fun hg => (QW.move (.tmp rfl))) ?_
    refine JL.g rfl rfl rfl rfl rfl (fun hg => (QW.move (.tmp rfl))) ?_
    refine JL.g rfl rfl rfl rfl rfl (fun hg => (QW.lss (.when rfl hg) (.when rfl hg))) ?_
    refine JL.q rfl rfl rfl (QW.pick_or (.tmp rfl) (.tmp rfl)) ?_
    refine JL.q rfl rfl rfl (QW.assign (.tmp rfl)) ?_
    refine JL.nil ?_
    refine thenQ.n ?_
    refine J.ret ?_
    exact ⟨_, [], _, RetEv.one rfl (REv.tmp rfl (.refl _)), rfl, List.Perm.refl _, ret_bool (by
        have hn1 : isNan a = false := by cases h : isNan a with | false => rfl | true => have := class_nan.2 h; omega
        have hn2 : isNan b = false := by cases h : isNan b with | false => rfl | true => have := class_nan.2 h; omega
        rw [ford_ge hn1 hn2]
        have h1 := order_sr ha hn1
        have h2 := order_sr hb hn2
        have hs1 : (2 ^ 63 ≤ a → sr a ≤ 0) ∧ (a < 2 ^ 63 → 0 ≤ sr a) := by unfold sr sgn; refine ⟨fun h => ?_, fun h => ?_⟩ <;> split <;> simp_all <;> omega
        have hs2 : (2 ^ 63 ≤ b → sr b ≤ 0) ∧ (b < 2 ^ 63 → 0 ≤ sr b) := by unfold sr sgn; refine ⟨fun h => ?_, fun h => ?_⟩ <;> split <;> simp_all <;> omega
        simp
        split at h1 <;> split at h2 <;> omega), rfl⟩

def flipN (b : Nat) : Nat := if 2 ^ 63 ≤ b then b - 2 ^ 63 else b + 2 ^ 63
theorem flip_lt {b : Nat} (h : b < 2 ^ 64) : flipN b < 2 ^ 64 := by unfold flipN; split <;> omega
theorem flip_bits {b : Nat} (h : b < 2 ^ 64) : bitsOp .xor .u64 (b : Int) 9223372036854775808 = ((flipN b : Nat) : Int) := by
  rw [show (9223372036854775808 : Int) = ((2 ^ 63 : Nat) : Int) by decide, bits_xor b _ h (by decide)]
  congr 1
  unfold flipN
  apply Nat.eq_of_testBit_eq
  intro i
  rw [Nat.testBit_xor, Nat.testBit_two_pow]
  by_cases h1 : 2 ^ 63 ≤ b
  · rw [if_pos h1]
    obtain ⟨c, rfl⟩ : ∃ c, b = 2 ^ 63 + c := ⟨b - 2 ^ 63, by omega⟩
    have hc : c < 2 ^ 63 := by omega
    rw [Nat.add_sub_cancel_left]
    by_cases hi : i = 63
    · subst hi
      rw [Nat.testBit_two_pow_add_eq]
      have : c.testBit 63 = false := Nat.testBit_lt_two_pow hc
      rw [this]; rfl
    · by_cases h2 : i < 63
      · rw [Nat.testBit_two_pow_add_gt h2, decide_eq_false (by omega)]; simp
      · have e1 : (2 ^ 63 + c).testBit i = false := Nat.testBit_lt_two_pow (Nat.lt_of_lt_of_le h (Nat.pow_le_pow_right (by decide) (by omega)))
        have e2 : c.testBit i = false := Nat.testBit_lt_two_pow (Nat.lt_of_lt_of_le hc (Nat.pow_le_pow_right (by decide) (by omega)))
        rw [e1, e2, decide_eq_false (by omega)]; rfl
  · rw [if_neg h1, Nat.add_comm]
    have hc : b < 2 ^ 63 := by omega
    by_cases hi : i = 63
    · subst hi
      rw [Nat.testBit_two_pow_add_eq]
      have : b.testBit 63 = false := Nat.testBit_lt_two_pow hc
      rw [this]; rfl
    · by_cases h2 : i < 63
      · rw [Nat.testBit_two_pow_add_gt h2, decide_eq_false (by omega)]; simp
      · have e1 : (2 ^ 63 + b).testBit i = false := Nat.testBit_lt_two_pow (Nat.lt_of_lt_of_le (show 2 ^ 63 + b < 2 ^ 64 by omega) (Nat.pow_le_pow_right (by decide) (by omega)))
        have e2 : b.testBit i = false := Nat.testBit_lt_two_pow (Nat.lt_of_lt_of_le hc (Nat.pow_le_pow_right (by decide) (by omega)))
        rw [e1, e2, decide_eq_false (by omega)]; rfl
theorem rdw_flip {b : Nat} (h : b < 2 ^ 64) : rdw (flipN b) = (rdw b).opposite := by
  have h1 : rung (flipN b) = rung b := by unfold rung flipN; split <;> omega
  have h2 : sgn (flipN b) = !sgn b := by
    unfold sgn flipN
    split
    · rw [show (b - 2 ^ 63) / 2 ^ 63 = 0 by omega, show b / 2 ^ 63 = 1 by omega]; rfl
    · rw [show (b + 2 ^ 63) / 2 ^ 63 = 1 by omega, show b / 2 ^ 63 = 0 by omega]; rfl
  rw [rdw_eq, rdw_eq, h1, h2]
  repeat' split
  all_goals rfl
theorem sub_flip {a b : Nat} (h : b < 2 ^ 64) : arithN .sub a b = arithN .add a (flipN b) := by
  show (((rdw a).sum (rdw b).opposite).map Ieee.double.write).getD oneNan = (((rdw a).sum (rdw (flipN b))).map Ieee.double.write).getD oneNan
  rw [rdw_flip h]
theorem sum_comm (x y : Ieee.Datum) : x.sum y = y.sum x := by
  cases x <;> cases y <;> simp only [Ieee.Datum.sum]
  · rename_i s m i t n j
    rw [Int.min_comm i j, Int.add_comm (Ieee.signed s _ _), Bool.and_comm]
  · rename_i s t
    by_cases h : s = t
    · subst h; rfl
    · rw [if_neg h, if_neg (fun e => h e.symm)]
theorem product_comm (x y : Ieee.Datum) : x.product y = y.product x := by
  cases x <;> cases y <;> simp only [Ieee.Datum.product]
  · rename_i s m i t n j
    rw [Bool.xor_comm, Nat.mul_comm, Int.add_comm]
  all_goals simp [Bool.xor_comm]
theorem add_comm2 (a b : Nat) : arithN .add a b = arithN .add b a := by
  show (((rdw a).sum (rdw b)).map Ieee.double.write).getD oneNan = (((rdw b).sum (rdw a)).map Ieee.double.write).getD oneNan
  rw [sum_comm]
theorem mul_comm2 (a b : Nat) : arithN .mul a b = arithN .mul b a := by
  show (((rdw a).product (rdw b)).map Ieee.double.write).getD oneNan = (((rdw b).product (rdw a)).map Ieee.double.write).getD oneNan
  rw [product_comm]


theorem floatTurns_ok (a b : Nat) (ha : a < 2 ^ 64) (hb : b < 2 ^ 64) : Fn Try.prog 6 [.c (.int .u64 (a : Int)), .c (.int .u64 (b : Int))] (.c (.bool true)) := by
  refine AC.of_J Try.func6 rfl Try.ntmps6 rfl fun w0 A0 => ?_
  refine J.seq ?_
  refine J.region_lit ?_
  refine JL.q rfl rfl rfl (QW.assign .const) ?_
  refine JL.nil ?_
  refine thenQ.n ?_
  refine J.seq ?_
  refine J.seq ?_
  refine J.region_lit ?_
  refine JL.q rfl rfl rfl (QW.call gofn11 .nil (by (apply alive01_ok <;> first | assumption | omega))) ?_
  refine JL.q rfl rfl rfl (QW.not (.tmp rfl)) ?_
  refine JL.nil ?_
  refine thenQ.n ?_
  refine J.cond (.tmp rfl) (fun c1 => absurd c1 (by decide)) (fun c1 => ?_)
  refine J.skip ?_
  refine thenQ.n ?_
  refine J.seq ?_
  refine J.seq ?_
  refine J.region_lit ?_
  refine JL.q rfl rfl rfl (QW.move (.tmp rfl)) ?_
  refine JL.q rfl rfl rfl (QW.call gofn12 (.cons (.tmp rfl) .nil) (by (apply class_ok <;> first | assumption | omega))) ?_
  refine JL.q rfl rfl rfl (QW.neq (.tmp rfl) .const) ?_
  refine JL.q rfl rfl rfl (QW.move (.tmp rfl)) ?_
  refine JL.g rfl rfl rfl rfl rfl (fun hg => (QW.move (.tmp rfl))) ?_
  refine JL.g rfl rfl rfl rfl rfl (fun hg => (QW.move (.tmp rfl))) ?_
  refine JL.g rfl rfl rfl rfl rfl (fun hg => (QW.call gofn18 (.cons (.when rfl hg) (.cons (.when rfl hg) .nil)) (by (apply sub_ok <;> first | assumption | omega)))) ?_
  refine JL.g rfl rfl rfl rfl rfl (fun hg => (QW.move (.tmp rfl))) ?_
  refine JL.g rfl rfl rfl rfl rfl (fun hg => (QW.move (.tmp rfl))) ?_
  refine JL.g rfl rfl rfl rfl rfl (fun hg => QW.xor (.when rfl hg) .const (flip_bits hb)) ?_
  refine JL.g rfl rfl rfl rfl rfl (fun hg => (QW.call gofn16 (.cons (.when rfl hg) (.cons (.when rfl hg) .nil)) (by (apply add_ok <;> first | assumption | omega)))) ?_
  refine JL.g rfl rfl rfl rfl rfl (fun hg => (QW.neq (.when rfl hg) (.when rfl hg))) ?_
  refine JL.q rfl rfl rfl (QW.pick_and (.tmp rfl) (.tmp rfl)) ?_
  refine JL.nil ?_
  refine thenQ.n ?_
  refine J.cond (.tmp rfl) (fun c2 => absurd c2 (by rw [sub_flip hb]; simp)) (fun c2 => ?_)
  refine J.skip ?_
  refine thenQ.n ?_
  refine J.seq ?_
  refine J.region_lit ?_
  refine JL.q rfl rfl rfl (QW.move (.tmp rfl)) ?_
  refine JL.q rfl rfl rfl (QW.move (.tmp rfl)) ?_
  refine JL.q rfl rfl rfl (QW.call gofn16 (.cons (.tmp rfl) (.cons (.tmp rfl) .nil)) (by (apply add_ok <;> first | assumption | omega))) ?_
  refine JL.q rfl rfl rfl (QW.move (.tmp rfl)) ?_
  refine JL.q rfl rfl rfl (QW.move (.tmp rfl)) ?_
  refine JL.q rfl rfl rfl (QW.call gofn16 (.cons (.tmp rfl) (.cons (.tmp rfl) .nil)) (by (apply add_ok <;> first | assumption | omega))) ?_
  refine JL.q rfl rfl rfl (QW.eql (.tmp rfl) (.tmp rfl)) ?_
  refine JL.q rfl rfl rfl (QW.move (.tmp rfl)) ?_
  refine JL.g rfl rfl rfl rfl rfl (fun hg => (QW.move (.tmp rfl))) ?_
  refine JL.g rfl rfl rfl rfl rfl (fun hg => (QW.move (.tmp rfl))) ?_
  refine JL.g rfl rfl rfl rfl rfl (fun hg => (QW.call gofn20 (.cons (.when rfl hg) (.cons (.when rfl hg) .nil)) (by (apply mul_ok <;> first | assumption | omega)))) ?_
  refine JL.g rfl rfl rfl rfl rfl (fun hg => (QW.move (.tmp rfl))) ?_
  refine JL.g rfl rfl rfl rfl rfl (fun hg => (QW.move (.tmp rfl))) ?_
  refine JL.g rfl rfl rfl rfl rfl (fun hg => (QW.call gofn20 (.cons (.when rfl hg) (.cons (.when rfl hg) .nil)) (by (apply mul_ok <;> first | assumption | omega)))) ?_
  refine JL.g rfl rfl rfl rfl rfl (fun hg => (QW.eql (.when rfl hg) (.when rfl hg))) ?_
  refine JL.q rfl rfl rfl (QW.pick_and (.tmp rfl) (.tmp rfl)) ?_
  refine JL.q rfl rfl rfl (QW.assign (.tmp rfl)) ?_
  refine JL.nil ?_
  refine thenQ.n ?_
  refine J.ret ?_
  exact ⟨_, [], _, RetEv.one rfl (REv.tmp rfl (.refl _)), rfl, List.Perm.refl _, ret_bool (by rw [add_comm2 a b, mul_comm2 a b]; simp), rfl⟩

end Go.Proofs.Ytppoepenmpcbnaa.J
