/- Walks: the page's own answers for numbers (the package fanlightref01), second part; FloatTells. -/
import Derived.Test.YtppoepenmpcbnaaWf3
import Derived.Test.YtppoepenmpcbnaaWl01d
namespace Go.Proofs.Ytppoepenmpcbnaa.J
open Go Go.RowKit
set_option linter.unusedVariables false
set_option linter.unusedSimpArgs false
set_option maxRecDepth 10000

theorem not_bits {b : Nat} (hb : b < 2 ^ 64) : bitsOp .xor .u64 (if IntKind.u64.signed then -1 else IntKind.u64.max) (b : Int) = ((2 ^ 64 - 1 - b : Nat) : Int) := by
  have e : (if IntKind.u64.signed then -1 else IntKind.u64.max) = ((2 ^ 64 - 1 : Nat) : Int) := by decide
  rw [e, bits_xor _ b (by decide) hb]
  congr 1
  apply Nat.eq_of_testBit_eq
  intro i
  rw [Nat.testBit_xor, show 2 ^ 64 - 1 - b = 2 ^ 64 - (b + 1) by omega, Nat.testBit_two_pow_sub_succ hb, Nat.testBit_two_pow_sub_one]
  by_cases h : i < 64
  · simp [h]
  · have : b.testBit i = false := Nat.testBit_lt_two_pow (Nat.lt_of_lt_of_le hb (Nat.pow_le_pow_right (by decide) (by omega)))
    simp [h, this]
theorem or_sign {b : Nat} (hb : b < 2 ^ 63) : bitsOp .or .u64 (b : Int) 9223372036854775808 = ((b + 2 ^ 63 : Nat) : Int) := by
  rw [show (9223372036854775808 : Int) = ((2 ^ 63 : Nat) : Int) by decide, bits_or b _ (by omega) (by decide)]
  congr 1
  rw [Nat.or_comm, Nat.add_comm]
  have := Nat.two_pow_add_eq_or_of_lt hb 1
  rw [Nat.mul_one] at this
  exact this.symm
theorem andNot_low {b d : Nat} (hb : b < 2 ^ 64) (hd : d ≤ 52) : bitsOp .andNot .u64 (b : Int) ((2 ^ d - 1 : Nat) : Int) = ((b - b % 2 ^ d : Nat) : Int) := by
  have h1 : 2 ^ d ≤ 2 ^ 52 := Nat.pow_le_pow_right (by decide) hd
  have e : bitsOp .andNot .u64 (b : Int) ((2 ^ d - 1 : Nat) : Int) = IntKind.u64.wrap ((BitVec.ofInt 64 (b : Int) &&& ~~~ BitVec.ofInt 64 ((2 ^ d - 1 : Nat) : Int)).toNat : Nat) := rfl
  rw [e]
  have hx : (BitVec.ofInt 64 (b : Int) &&& ~~~ BitVec.ofInt 64 ((2 ^ d - 1 : Nat) : Int)).toNat = b - b % 2 ^ d := by
    rw [BitVec.toNat_and, BitVec.toNat_not]
    have t1 : (BitVec.ofInt 64 (b : Int)).toNat = b := by simp [BitVec.toNat_ofInt]; omega
    have t2 : (BitVec.ofInt 64 ((2 ^ d - 1 : Nat) : Int)).toNat = 2 ^ d - 1 := by simp [BitVec.toNat_ofInt]; omega
    rw [t1, t2]
    apply Nat.eq_of_testBit_eq
    intro i
    have hq : b - b % 2 ^ d = 2 ^ d * (b / 2 ^ d) := by have := Nat.div_add_mod b (2 ^ d); omega
    rw [Nat.testBit_and, show 2 ^ 64 - 1 - (2 ^ d - 1) = 2 ^ 64 - (2 ^ d - 1 + 1) by omega, Nat.testBit_two_pow_sub_succ (by omega), Nat.testBit_two_pow_sub_one, hq, Nat.testBit_two_pow_mul, Nat.testBit_div_two_pow]
    by_cases hi : i < d
    · simp [hi, Nat.not_le.2 hi]
    · by_cases h64 : i < 64
      · simp [hi, h64, Nat.not_lt.1 hi]
      · have : b.testBit i = false := Nat.testBit_lt_two_pow (Nat.lt_of_lt_of_le hb (Nat.pow_le_pow_right (by decide) (by omega)))
        simp [hi, h64, Nat.not_lt.1 hi, this]
  rw [hx, wu64 (by omega)]
theorem and_low {b d : Nat} (hb : b < 2 ^ 64) (hd : d ≤ 52) : bitsOp .and .u64 (b : Int) ((2 ^ d - 1 : Nat) : Int) = ((b % 2 ^ d : Nat) : Int) := by
  have h1 : 2 ^ d ≤ 2 ^ 52 := Nat.pow_le_pow_right (by decide) hd
  exact and_mask2 d hb (by omega)
theorem shl_one {d : Nat} (hd : d ≤ 52) : IntKind.u64.wrap ((1 : Int) * 2 ^ (min ((d : Int)).toNat IntKind.u64.bits)) = ((2 ^ d : Nat) : Int) := by
  have h1 : 2 ^ d ≤ 2 ^ 52 := Nat.pow_le_pow_right (by decide) hd
  rw [Int.toNat_natCast, Nat.min_eq_left (show d ≤ IntKind.u64.bits by have : IntKind.u64.bits = 64 := rfl; omega), Int.one_mul, show ((2 : Int) ^ d) = ((2 ^ d : Nat) : Int) by simp]
  generalize 2 ^ d = p at *
  exact wu64 (by omega)
theorem rung_exp {b : Nat} : expN b = rung b / 2 ^ 52 := by
  have := rung_fields b
  have := frac_lt b
  omega


theorem rorder_ok (b : Nat) (hb : b < 2 ^ 64) : Fn Try.prog 32 [.c (.int .u64 (b : Int))] (.c (.int .u64 (orderN b : Int))) := by
  refine AC.of_J Try.func32 rfl Try.ntmps32 rfl fun w0 A0 => ?_
  refine J.seq ?_
  refine J.region_lit ?_
  refine JL.q rfl rfl rfl (QW.assign .const) ?_
  refine JL.nil ?_
  refine thenQ.n ?_
  refine J.seq ?_
  refine J.block ?_
  refine J.seq ?_
  refine J.region_lit ?_
  refine JL.q rfl rfl rfl (QW.move (.tmp rfl)) ?_
  refine JL.q rfl rfl rfl (QW.call gofn31 (.cons (.tmp rfl) .nil) (by (apply rclass_ok <;> first | assumption | omega))) ?_
  refine JL.q rfl rfl rfl (QW.eql (.tmp rfl) .const) ?_
  refine JL.q rfl rfl rfl (QW.assign (.tmp rfl)) ?_
  refine JL.nil ?_
  refine thenQ.n ?_
  refine J.cond (.tmp rfl) (fun c1 => ?_) (fun c1 => ?_)
  ·
    simp at c1
    refine J.seq ?_
    refine J.region_lit ?_
    refine JL.q rfl rfl rfl (QW.assign .const) ?_
    refine JL.nil ?_
    refine thenQ.n ?_
    refine J.ret ?_
    refine blkQ.r ?_
    refine thenQ.r ?_
    exact ⟨_, [], _, RetEv.one rfl (REv.tmp rfl (.refl _)), rfl, List.Perm.refl _, by unfold orderN; rw [if_pos (class_nan.1 (by omega))]; rfl, rfl⟩
  ·
    simp at c1
    have hn : isNan b = false := by cases h : isNan b with | false => rfl | true => exact absurd (class_nan.2 h) (by omega)
    refine J.seq ?_
    refine J.region_lit ?_
    refine JL.q rfl rfl rfl (QW.move (.tmp rfl)) ?_
    refine JL.q rfl rfl rfl (QW.geq (.tmp rfl) .const) ?_
    refine JL.q rfl rfl rfl (QW.assign (.tmp rfl)) ?_
    refine JL.nil ?_
    refine thenQ.n ?_
    refine J.cond (.tmp rfl) (fun c2 => ?_) (fun c2 => ?_)
    ·
      simp at c2
      have hb2 : 2 ^ 63 ≤ b := by omega
      refine J.seq ?_
      refine J.region_lit ?_
      refine JL.q rfl rfl rfl (QW.move (.tmp rfl)) ?_
      refine JL.q rfl rfl rfl (QW.inv (.tmp rfl) (not_bits hb)) ?_
      refine JL.q rfl rfl rfl (QW.assign (.tmp rfl)) ?_
      refine JL.nil ?_
      refine thenQ.n ?_
      refine J.ret ?_
      refine blkQ.r ?_
      refine thenQ.r ?_
      exact ⟨_, [], _, RetEv.one rfl (REv.tmp rfl (.refl _)), rfl, List.Perm.refl _, by unfold orderN; rw [hn, if_neg (by decide), if_pos hb2], rfl⟩
    ·
      simp at c2
      have hb2 : b < 2 ^ 63 := by omega
      refine J.skip ?_
      refine blkQ.n ?_
      refine thenQ.n ?_
      refine J.seq ?_
      refine J.region_lit ?_
      refine JL.q rfl rfl rfl (QW.move (.tmp rfl)) ?_
      refine JL.q rfl rfl rfl (QW.or (.tmp rfl) .const (or_sign hb2)) ?_
      refine JL.q rfl rfl rfl (QW.assign (.tmp rfl)) ?_
      refine JL.nil ?_
      refine thenQ.n ?_
      refine J.ret ?_
      exact ⟨_, [], _, RetEv.one rfl (REv.tmp rfl (.refl _)), rfl, List.Perm.refl _, by unfold orderN; rw [hn, if_neg (by decide), if_neg (by omega)], rfl⟩


theorem rofInt_ok (n : Int) (h : -9223372036854775808 ≤ n ∧ n ≤ 9223372036854775807) : Fn Try.prog 28 [.c (.int .i64 n)] (.tup [.c (.int .u64 (ofN n : Int)), .c (.int .i64 (ofE n))]) := by
  refine AC.of_J Try.func28 rfl Try.ntmps28 rfl fun w0 A0 => ?_
  refine J.seq ?_
  refine J.region_lit ?_
  refine JL.q rfl rfl rfl (QW.assign .const) ?_
  refine JL.q rfl rfl rfl (QW.assign .const) ?_
  refine JL.nil ?_
  refine thenQ.n ?_
  refine J.seq ?_
  refine J.seq ?_
  refine J.region_lit ?_
  refine JL.q rfl rfl rfl (QW.move (.tmp rfl)) ?_
  refine JL.q rfl rfl rfl (QW.lss (.tmp rfl) .const) ?_
  refine JL.q rfl rfl rfl (QW.move (.tmp rfl)) ?_
  refine JL.g rfl rfl rfl rfl rfl (fun hg => (QW.move (.tmp rfl))) ?_
  refine JL.g rfl rfl rfl rfl rfl (fun hg => (QW.gtr (.when rfl hg) .const)) ?_
  refine JL.q rfl rfl rfl (QW.pick_or (.tmp rfl) (.tmp rfl)) ?_
  refine JL.nil ?_
  refine thenQ.n ?_
  refine J.cond (.tmp rfl) (fun c1 => ?_) (fun c1 => ?_)
  ·
    simp at c1
    refine J.seq ?_
    refine J.region_lit ?_
    refine JL.q rfl rfl rfl (QW.assign .const) ?_
    refine JL.q rfl rfl rfl (QW.assign .const) ?_
    refine JL.nil ?_
    refine thenQ.n ?_
    refine J.ret ?_
    refine thenQ.r ?_
    exact ⟨_, [], _, RetEv.two rfl (REv.tmp rfl (.refl _)) (REv.tmp rfl (.refl _)), rfl, List.Perm.refl _, by rw [show ofN n = 0 from if_pos c1, show ofE n = 4 from if_pos c1]; rfl, rfl⟩
  ·
    simp at c1
    refine J.skip ?_
    refine thenQ.n ?_
    refine J.seq ?_
    refine J.region_lit ?_
    refine JL.q rfl rfl rfl (QW.move (.tmp rfl)) ?_
    refine JL.q rfl rfl rfl (QW.conv_if us3 fl27 (.tmp rfl)) ?_
    refine JL.q rfl rfl rfl (QW.ext (extBits _) (.tmp rfl)) ?_
    refine JL.q rfl rfl rfl (QW.assign (.tmp rfl)) ?_
    refine JL.q rfl rfl rfl (QW.assign .const) ?_
    refine JL.nil ?_
    refine thenQ.n ?_
    refine J.ret ?_
    exact ⟨_, [], _, RetEv.two rfl (REv.tmp rfl (.refl _)) (REv.tmp rfl (.refl _)), rfl, List.Perm.refl _, by rw [show ofN n = FloatKind.f64.nearest n from if_neg (by omega), show ofE n = 0 from if_neg (by omega)], rfl⟩


theorem rfloor_ok (b : Nat) (hb : b < 2 ^ 64) : Fn Try.prog 33 [.c (.int .u64 (b : Int))] (.c (.int .u64 (floorC b : Int))) := by
  have hexp := exp_lt b
  have hre := @rung_exp b
  have hcl := class_two hb
  refine AC.of_J Try.func33 rfl Try.ntmps33 rfl fun w0 A0 => ?_
  refine J.seq ?_
  refine J.region_lit ?_
  refine JL.q rfl rfl rfl (QW.assign .const) ?_
  refine JL.nil ?_
  refine thenQ.n ?_
  refine J.seq ?_
  refine J.region_lit ?_
  refine JL.q rfl rfl rfl (QW.move (.tmp rfl)) ?_
  refine JL.q rfl rfl rfl (QW.call gofn31 (.cons (.tmp rfl) .nil) (by (apply rclass_ok <;> first | assumption | omega))) ?_
  refine JL.q rfl rfl rfl (QW.assign (.tmp rfl)) ?_
  refine JL.nil ?_
  refine thenQ.n ?_
  refine J.seq ?_
  refine J.region_lit ?_
  refine JL.q rfl rfl rfl (QW.move (.tmp rfl)) ?_
  refine JL.q rfl rfl rfl (QW.call gofn47 (.cons (.tmp rfl) .nil) (by (apply rexp_ok <;> first | assumption | omega))) ?_
  refine JL.q rfl rfl rfl (QW.sub (.tmp rfl) .const (by first | exact w64n (by first | rfl | omega | (simp; done)) (by omega) | exact w64 (by omega) | rfl)) ?_
  refine JL.q rfl rfl rfl (QW.assign (.tmp rfl)) ?_
  refine JL.nil ?_
  refine thenQ.n ?_
  refine J.seq ?_
  refine J.block ?_
  refine J.seq ?_
  refine J.region_lit ?_
  refine JL.q rfl rfl rfl (QW.move (.tmp rfl)) ?_
  refine JL.q rfl rfl rfl (QW.eql (.tmp rfl) .const) ?_
  refine JL.q rfl rfl rfl (QW.assign (.tmp rfl)) ?_
  refine JL.nil ?_
  refine thenQ.n ?_
  refine J.cond (.tmp rfl) (fun c1 => ?_) (fun c1 => ?_)
  ·
    simp at c1
    refine J.seq ?_
    refine J.region_lit ?_
    refine JL.q rfl rfl rfl (QW.assign .const) ?_
    refine JL.nil ?_
    refine thenQ.n ?_
    refine J.ret ?_
    refine blkQ.r ?_
    refine thenQ.r ?_
    exact ⟨_, [], _, RetEv.one rfl (REv.tmp rfl (.refl _)), rfl, List.Perm.refl _, by unfold floorC; rw [if_pos (class_nan.1 (by omega))]; rfl, rfl⟩
  ·
    simp at c1
    refine J.seq ?_
    refine J.region_lit ?_
    refine JL.q rfl rfl rfl (QW.move (.tmp rfl)) ?_
    refine JL.q rfl rfl rfl (QW.lss (.tmp rfl) .const) ?_
    refine JL.q rfl rfl rfl (QW.move (.tmp rfl)) ?_
    refine JL.g rfl rfl rfl rfl rfl (fun hg => (QW.move (.tmp rfl))) ?_
    refine JL.g rfl rfl rfl rfl rfl (fun hg => (QW.geq (.when rfl hg) .const)) ?_
    refine JL.q rfl rfl rfl (QW.pick_or (.tmp rfl) (.tmp rfl)) ?_
    refine JL.q rfl rfl rfl (QW.assign (.tmp rfl)) ?_
    refine JL.nil ?_
    refine thenQ.n ?_
    refine J.cond (.tmp rfl) (fun c2 => ?_) (fun c2 => ?_)
    ·
      simp at c2
      refine J.seq ?_
      refine J.region_lit ?_
      refine JL.q rfl rfl rfl (QW.move (.tmp rfl)) ?_
      refine JL.q rfl rfl rfl (QW.assign (.tmp rfl)) ?_
      refine JL.nil ?_
      refine thenQ.n ?_
      refine J.ret ?_
      refine blkQ.r ?_
      refine thenQ.r ?_
      exact ⟨_, [], _, RetEv.one rfl (REv.tmp rfl (.refl _)), rfl, List.Perm.refl _, by
          congr 3
          by_cases hf : rung b < infR
          · refine ((floor_whole hb hf).2 ?_).symm ▸ rfl
            unfold isWhole
            rcases c2 with h | h
            · have : rung b = 0 := by
                rw [hcl] at h
                have := rung_fields b
                repeat' split at h
                all_goals first | (exfalso; omega) | omega
              rw [this, magn_zero, Nat.zero_mod]
            · exact magn_big (by omega)
          · rw [floor_inf hb (by omega)]
            unfold canonN
            rw [if_neg (fun h => c1 (by rw [class_nan.2 h]))], rfl⟩
    ·
      simp at c2
      refine J.seq ?_
      refine J.region_lit ?_
      refine JL.q rfl rfl rfl (QW.move (.tmp rfl)) ?_
      refine JL.q rfl rfl rfl (QW.lss (.tmp rfl) .const) ?_
      refine JL.q rfl rfl rfl (QW.move (.tmp rfl)) ?_
      refine JL.g rfl rfl rfl rfl rfl (fun hg => (QW.move (.tmp rfl))) ?_
      refine JL.g rfl rfl rfl rfl rfl (fun hg => (QW.lss (.when rfl hg) .const)) ?_
      refine JL.q rfl rfl rfl (QW.pick_and (.tmp rfl) (.tmp rfl)) ?_
      refine JL.q rfl rfl rfl (QW.assign (.tmp rfl)) ?_
      refine JL.nil ?_
      refine thenQ.n ?_
      refine J.cond (.tmp rfl) (fun c3 => ?_) (fun c3 => ?_)
      ·
        simp at c3
        refine J.seq ?_
        refine J.region_lit ?_
        refine JL.q rfl rfl rfl (QW.assign .const) ?_
        refine JL.nil ?_
        refine thenQ.n ?_
        refine J.ret ?_
        refine blkQ.r ?_
        refine thenQ.r ?_
        exact ⟨_, [], _, RetEv.one rfl (REv.tmp rfl (.refl _)), rfl, List.Perm.refl _, by rw [refFloor_zero hb (by omega) (by omega)]; rfl, rfl⟩
      ·
        simp at c3
        refine J.seq ?_
        refine J.region_lit ?_
        refine JL.q rfl rfl rfl (QW.move (.tmp rfl)) ?_
        refine JL.q rfl rfl rfl (QW.lss (.tmp rfl) .const) ?_
        refine JL.q rfl rfl rfl (QW.assign (.tmp rfl)) ?_
        refine JL.nil ?_
        refine thenQ.n ?_
        refine J.cond (.tmp rfl) (fun c4 => ?_) (fun c4 => ?_)
        ·
          simp at c4
          refine J.seq ?_
          refine J.region_lit ?_
          refine JL.q rfl rfl rfl (QW.ext (extBits _) .const) ?_
          refine JL.q rfl rfl rfl (QW.assign (.tmp rfl)) ?_
          refine JL.nil ?_
          refine thenQ.n ?_
          refine J.ret ?_
          refine blkQ.r ?_
          refine thenQ.r ?_
          exact ⟨_, [], _, RetEv.one rfl (REv.tmp rfl (.refl _)), rfl, List.Perm.refl _, by
              have h0 : rung b ≠ 0 := by
                intro h
                have := rung_fields b
                have : classN b < 2 := by
                  rw [hcl]
                  repeat' split
                  all_goals first | (exfalso; omega) | omega
                omega
              rw [refFloor_minus hb (by omega) h0 (by omega)], rfl⟩
        ·
          simp at c4
          have hlo : 1023 * 2 ^ 52 ≤ rung b := by omega
          have hhi : rung b < 1075 * 2 ^ 52 := by omega
          refine J.skip ?_
          refine blkQ.n ?_
          refine thenQ.n ?_
          refine J.seq ?_
          refine J.region_lit ?_
          refine JL.q rfl rfl rfl (QW.move (.tmp rfl)) ?_
          obtain ⟨d, hd⟩ : ∃ d : Nat, d = 1075 - rung b / 2 ^ 52 := ⟨_, rfl⟩
          have hd52 : d ≤ 52 := by omega
          refine JL.q rfl rfl rfl (QW.sub (c := (d : Int)) .const (.tmp rfl) (w64n (by omega) (by omega))) ?_
          refine JL.q rfl rfl rfl (QW.shl (c := ((2 ^ d : Nat) : Int)) .const (.tmp rfl) (by omega) (shl_one hd52)) ?_
          have hpd := Nat.two_pow_pos d
          have hpl : 2 ^ d ≤ 2 ^ 52 := Nat.pow_le_pow_right (by decide) hd52
          refine JL.q rfl rfl rfl (QW.sub (c := ((2 ^ d - 1 : Nat) : Int)) (.tmp rfl) .const (by rw [wu64 (by omega)]; omega)) ?_
          refine JL.q rfl rfl rfl (QW.assign (.tmp rfl)) ?_
          refine JL.nil ?_
          refine thenQ.n ?_
          refine J.seq ?_
          refine J.seq ?_
          refine J.region_lit ?_
          refine JL.q rfl rfl rfl (QW.move (.tmp rfl)) ?_
          refine JL.q rfl rfl rfl (QW.move (.tmp rfl)) ?_
          refine JL.q rfl rfl rfl (QW.and (.tmp rfl) (.tmp rfl) (and_low hb hd52)) ?_
          refine JL.q rfl rfl rfl (QW.eql (.tmp rfl) .const) ?_
          refine JL.nil ?_
          refine thenQ.n ?_
          refine J.cond (.tmp rfl) (fun c5 => ?_) (fun c5 => ?_)
          ·
            have c5 : b % 2 ^ d = 0 := Int.ofNat_inj.1 (eq_of_beq c5)
            refine J.seq ?_
            refine J.region_lit ?_
            refine JL.q rfl rfl rfl (QW.move (.tmp rfl)) ?_
            refine JL.q rfl rfl rfl (QW.assign (.tmp rfl)) ?_
            refine JL.nil ?_
            refine thenQ.n ?_
            refine J.ret ?_
            refine thenQ.r ?_
            exact ⟨_, [], _, RetEv.one rfl (REv.tmp rfl (.refl _)), rfl, List.Perm.refl _, by
                have hf : rung b < infR := by unfold infR; omega
                have : isWhole b := (magn_mid hlo hhi hd).1.2 (by
                  have : rung b % 2 ^ d = b % 2 ^ d := by
                    obtain ⟨j, hj⟩ : ∃ j, 63 = d + j := ⟨63 - d, by omega⟩
                    unfold rung; rw [hj, Nat.pow_add, Nat.mod_mul_right_mod]
                  omega)
                rw [(floor_whole hb hf).2 this], rfl⟩
          ·
            have c5 : b % 2 ^ d ≠ 0 := fun h => by rw [h] at c5; cases c5
            refine J.skip ?_
            refine thenQ.n ?_
            refine J.seq ?_
            refine J.seq ?_
            refine J.region_lit ?_
            refine JL.q rfl rfl rfl (QW.move (.tmp rfl)) ?_
            refine JL.q rfl rfl rfl (QW.lss (.tmp rfl) .const) ?_
            refine JL.nil ?_
            refine thenQ.n ?_
            refine J.cond (.tmp rfl) (fun c6 => ?_) (fun c6 => ?_)
            ·
              simp at c6
              refine J.seq ?_
              refine J.region_lit ?_
              refine JL.q rfl rfl rfl (QW.move (.tmp rfl)) ?_
              refine JL.q rfl rfl rfl (QW.move (.tmp rfl)) ?_
              refine JL.q rfl rfl rfl (QW.andNot (.tmp rfl) (.tmp rfl) (andNot_low hb hd52)) ?_
              refine JL.q rfl rfl rfl (QW.assign (.tmp rfl)) ?_
              refine JL.nil ?_
              refine thenQ.n ?_
              refine J.ret ?_
              refine thenQ.r ?_
              exact ⟨_, [], _, RetEv.one rfl (REv.tmp rfl (.refl _)), rfl, List.Perm.refl _, by rw [refFloor_plus hb hlo hhi hd (by omega)], rfl⟩
            ·
              simp at c6
              refine J.skip ?_
              refine thenQ.n ?_
              refine J.seq ?_
              refine J.region_lit ?_
              refine JL.q rfl rfl rfl (QW.move (.tmp rfl)) ?_
              refine JL.q rfl rfl rfl (QW.move (.tmp rfl)) ?_
              refine JL.q rfl rfl rfl (QW.andNot (.tmp rfl) (.tmp rfl) (andNot_low hb hd52)) ?_
              refine JL.q rfl rfl rfl (QW.ext (extBits _) .const) ?_
              refine JL.q rfl rfl rfl (QW.call gofn19 (.cons (.tmp rfl) (.cons (.tmp rfl) .nil)) (by (apply rsub_ok <;> first | assumption | omega))) ?_
              refine JL.q rfl rfl rfl (QW.assign (.tmp rfl)) ?_
              refine JL.nil ?_
              refine thenQ.n ?_
              refine J.ret ?_
              exact ⟨_, [], _, RetEv.one rfl (REv.tmp rfl (.refl _)), rfl, List.Perm.refl _, by rw [refFloor_less hb hlo hhi hd (by omega) (by omega)], rfl⟩


theorem rint_ok (b : Nat) (hb : b < 2 ^ 64) : Fn Try.prog 29 [.c (.int .u64 (b : Int))] (.tup [.c (.int .i64 (intV b)), .c (.int .i64 (intE b))]) := by
  have hexp := exp_lt b
  have hrf := rung_fields b
  have hfr := frac_lt b
  refine AC.of_J Try.func29 rfl Try.ntmps29 rfl fun w0 A0 => ?_
  refine J.seq ?_
  refine J.region_lit ?_
  refine JL.q rfl rfl rfl (QW.assign .const) ?_
  refine JL.q rfl rfl rfl (QW.assign .const) ?_
  refine JL.nil ?_
  refine thenQ.n ?_
  refine J.seq ?_
  refine J.seq ?_
  refine J.region_lit ?_
  refine JL.q rfl rfl rfl (QW.move (.tmp rfl)) ?_
  refine JL.q rfl rfl rfl (QW.call gofn31 (.cons (.tmp rfl) .nil) (by (apply rclass_ok <;> first | assumption | omega))) ?_
  refine JL.q rfl rfl rfl (QW.geq (.tmp rfl) .const) ?_
  refine JL.q rfl rfl rfl (QW.move (.tmp rfl)) ?_
  refine JL.g rfl rfl rfl rfl rfl (fun hg => (QW.move (.tmp rfl))) ?_
  refine JL.g rfl rfl rfl rfl rfl (fun hg => (QW.call gofn33 (.cons (.when rfl hg) .nil) (rfloor_ok b hb))) ?_
  refine JL.g rfl rfl rfl rfl rfl (fun hg => (QW.move (.tmp rfl))) ?_
  refine JL.g rfl rfl rfl rfl rfl (fun hg => (QW.neq (.when rfl hg) (.when rfl hg))) ?_
  refine JL.q rfl rfl rfl (QW.pick_or (.tmp rfl) (.tmp rfl)) ?_
  refine JL.nil ?_
  refine thenQ.n ?_
  refine J.cond (.tmp rfl) (fun c1 => ?_) (fun c1 => ?_)
  ·
    have hT : infR ≤ rung b ∨ ¬ isWhole b := by
      by_cases hf : rung b < infR
      · have := class_fin.2 hf
        have hw := floor_whole hb hf
        simp at c1
        rcases c1 with h | h
        · omega
        · exact .inr fun h' => h (by rw [hw.2 h'])
      · exact .inl (by omega)
    refine J.seq ?_
    refine J.region_lit ?_
    refine JL.q rfl rfl rfl (QW.assign .const) ?_
    refine JL.q rfl rfl rfl (QW.assign .const) ?_
    refine JL.nil ?_
    refine thenQ.n ?_
    refine J.ret ?_
    refine thenQ.r ?_
    exact ⟨_, [], _, RetEv.two rfl (REv.tmp rfl (.refl _)) (REv.tmp rfl (.refl _)), rfl, List.Perm.refl _, by rw [(int_t hT).1, (int_t hT).2], rfl⟩
  ·
    have hc : ¬ 4 ≤ classN b := by intro h; rw [decide_eq_true (by omega), Bool.true_or] at c1; cases c1
    have hf : rung b < infR := by rw [class_ge] at hc; omega
    have hw : isWhole b := by
      simp at c1
      exact (floor_whole hb hf).1 (by omega)
    refine J.skip ?_
    refine thenQ.n ?_
    refine J.seq ?_
    refine J.seq ?_
    refine J.region_lit ?_
    refine JL.q rfl rfl rfl (QW.move (.tmp rfl)) ?_
    refine JL.q rfl rfl rfl (QW.call gofn47 (.cons (.tmp rfl) .nil) (by (apply rexp_ok <;> first | assumption | omega))) ?_
    refine JL.q rfl rfl rfl (QW.sub (.tmp rfl) .const (by first | exact w64n (by first | rfl | omega | (simp; done)) (by omega) | exact w64 (by omega) | rfl)) ?_
    refine JL.q rfl rfl rfl (QW.gtr (.tmp rfl) .const) ?_
    refine JL.q rfl rfl rfl (QW.move (.tmp rfl)) ?_
    refine JL.g rfl rfl rfl rfl rfl (fun hg => (QW.move (.tmp rfl))) ?_
    refine JL.g rfl rfl rfl rfl rfl (fun hg => (QW.call gofn47 (.cons (.when rfl hg) .nil) (by (apply rexp_ok <;> first | assumption | omega)))) ?_
    refine JL.g rfl rfl rfl rfl rfl (fun hg => (QW.sub (.when rfl hg) .const (by first | exact w64n (by first | rfl | omega | (simp; done)) (by omega) | exact w64 (by omega) | rfl))) ?_
    refine JL.g rfl rfl rfl rfl rfl (fun hg => (QW.eql (.when rfl hg) .const)) ?_
    refine JL.g rfl rfl rfl rfl rfl (fun hg => (QW.move (.when rfl hg))) ?_
    refine JL.gg rfl rfl rfl rfl rfl (fun hg => (QW.move (.tmp rfl))) ?_
    refine JL.gg rfl rfl rfl rfl rfl (fun hg => (QW.call gofn48 (.cons (.when rfl hg) .nil) (by (apply rfrac_ok <;> first | assumption | omega)))) ?_
    refine JL.gg rfl rfl rfl rfl rfl (fun hg => (QW.gtr (.when rfl hg) .const)) ?_
    refine JL.g rfl rfl rfl rfl rfl (fun hg => (by first | exact QW.pick_and (.when rfl hg) (.tmp rfl) | exact QW.pick_and2 hg (.when rfl hg) (.tmp rfl))) ?_
    refine JL.q rfl rfl rfl (QW.pick_or (.tmp rfl) (.tmp rfl)) ?_
    refine JL.nil ?_
    refine thenQ.n ?_
    refine J.cond (.tmp rfl) (fun c2 => ?_) (fun c2 => ?_)
    ·
      simp at c2
      have hm : mostR < rung b := by unfold mostR; omega
      refine J.seq ?_
      refine J.region_lit ?_
      refine JL.q rfl rfl rfl (QW.assign .const) ?_
      refine JL.q rfl rfl rfl (QW.assign .const) ?_
      refine JL.nil ?_
      refine thenQ.n ?_
      refine J.ret ?_
      refine thenQ.r ?_
      exact ⟨_, [], _, RetEv.two rfl (REv.tmp rfl (.refl _)) (REv.tmp rfl (.refl _)), rfl, List.Perm.refl _, by rw [(int_r hf hw hm).1, (int_r hf hw hm).2], rfl⟩
    ·
      simp at c2
      have hm : rung b ≤ mostR := by unfold mostR; omega
      have hK := sv_fits (s := sgn b) (small_whole hm)
      refine J.skip ?_
      refine thenQ.n ?_
      refine J.seq ?_
      refine J.region_lit ?_
      refine JL.q rfl rfl rfl (QW.move (.tmp rfl)) ?_
      refine JL.q rfl rfl rfl (QW.ext (extFrom _) (.tmp rfl)) ?_
      refine JL.q rfl rfl rfl (QW.conv_fi us27 iu3 (.tmp rfl) (trunc_int hf) hK) ?_
      refine JL.q rfl rfl rfl (QW.assign (.tmp rfl)) ?_
      refine JL.q rfl rfl rfl (QW.assign .const) ?_
      refine JL.nil ?_
      refine thenQ.n ?_
      refine J.ret ?_
      exact ⟨_, [], _, RetEv.two rfl (REv.tmp rfl (.refl _)) (REv.tmp rfl (.refl _)), rfl, List.Perm.refl _, by rw [(int_o hf hw hm).1, (int_o hf hw hm).2], rfl⟩


theorem floatTells_ok (b : Nat) (n : Int) (hb : b < 2 ^ 64) (h : -9223372036854775808 ≤ n ∧ n ≤ 9223372036854775807) : Fn Try.prog 10 [.c (.int .u64 (b : Int)), .c (.int .i64 n)] (.c (.bool true)) := by
  refine AC.of_J Try.func10 rfl Try.ntmps10 rfl fun w0 A0 => ?_
  refine J.seq ?_
  refine J.region_lit ?_
  refine JL.q rfl rfl rfl (QW.assign .const) ?_
  refine JL.nil ?_
  refine thenQ.n ?_
  refine J.seq ?_
  refine J.region_lit ?_
  refine JL.q rfl rfl rfl (QW.move (.tmp rfl)) ?_
  refine JL.q rfl rfl rfl (QW.call gofn25 (.cons (.tmp rfl) .nil) (by (apply ofInt_ok <;> first | assumption | omega))) ?_
  refine JL.q rfl rfl rfl (QW.move (.tmp rfl)) ?_
  refine JL.q rfl rfl rfl (QW.extract (.tmp rfl) rfl) ?_
  refine JL.q rfl rfl rfl (QW.extract (.tmp rfl) rfl) ?_
  refine JL.q rfl rfl rfl (QW.assign (.tmp rfl)) ?_
  refine JL.q rfl rfl rfl (QW.assign (.tmp rfl)) ?_
  refine JL.nil ?_
  refine thenQ.n ?_
  refine J.seq ?_
  refine J.region_lit ?_
  refine JL.q rfl rfl rfl (QW.move (.tmp rfl)) ?_
  refine JL.q rfl rfl rfl (QW.call gofn28 (.cons (.tmp rfl) .nil) (by (apply rofInt_ok <;> first | assumption | omega))) ?_
  refine JL.q rfl rfl rfl (QW.move (.tmp rfl)) ?_
  refine JL.q rfl rfl rfl (QW.extract (.tmp rfl) rfl) ?_
  refine JL.q rfl rfl rfl (QW.extract (.tmp rfl) rfl) ?_
  refine JL.q rfl rfl rfl (QW.assign (.tmp rfl)) ?_
  refine JL.q rfl rfl rfl (QW.assign (.tmp rfl)) ?_
  refine JL.nil ?_
  refine thenQ.n ?_
  refine J.seq ?_
  refine J.region_lit ?_
  refine JL.q rfl rfl rfl (QW.move (.tmp rfl)) ?_
  refine JL.q rfl rfl rfl (QW.call gofn27 (.cons (.tmp rfl) .nil) (by (apply int_ok <;> first | assumption | omega))) ?_
  refine JL.q rfl rfl rfl (QW.move (.tmp rfl)) ?_
  refine JL.q rfl rfl rfl (QW.extract (.tmp rfl) rfl) ?_
  refine JL.q rfl rfl rfl (QW.extract (.tmp rfl) rfl) ?_
  refine JL.q rfl rfl rfl (QW.assign (.tmp rfl)) ?_
  refine JL.q rfl rfl rfl (QW.assign (.tmp rfl)) ?_
  refine JL.nil ?_
  refine thenQ.n ?_
  refine J.seq ?_
  refine J.region_lit ?_
  refine JL.q rfl rfl rfl (QW.move (.tmp rfl)) ?_
  refine JL.q rfl rfl rfl (QW.call gofn29 (.cons (.tmp rfl) .nil) (by (apply rint_ok <;> first | assumption | omega))) ?_
  refine JL.q rfl rfl rfl (QW.move (.tmp rfl)) ?_
  refine JL.q rfl rfl rfl (QW.extract (.tmp rfl) rfl) ?_
  refine JL.q rfl rfl rfl (QW.extract (.tmp rfl) rfl) ?_
  refine JL.q rfl rfl rfl (QW.assign (.tmp rfl)) ?_
  refine JL.q rfl rfl rfl (QW.assign (.tmp rfl)) ?_
  refine JL.nil ?_
  refine thenQ.n ?_
  refine J.seq ?_
  refine J.region_lit ?_
  refine JL.q rfl rfl rfl (QW.move (.tmp rfl)) ?_
  refine JL.q rfl rfl rfl (QW.call gofn14 (.cons (.tmp rfl) .nil) (by (apply canon_ok <;> first | assumption | omega))) ?_
  refine JL.q rfl rfl rfl (QW.move (.tmp rfl)) ?_
  refine JL.q rfl rfl rfl (QW.call gofn30 (.cons (.tmp rfl) .nil) (by (apply rcanon_ok <;> first | assumption | omega))) ?_
  refine JL.q rfl rfl rfl (QW.eql (.tmp rfl) (.tmp rfl)) ?_
  refine JL.q rfl rfl rfl (QW.move (.tmp rfl)) ?_
  refine JL.g rfl rfl rfl rfl rfl (fun hg => (QW.move (.tmp rfl))) ?_
  refine JL.g rfl rfl rfl rfl rfl (fun hg => (QW.call gofn12 (.cons (.when rfl hg) .nil) (by (apply class_ok <;> first | assumption | omega)))) ?_
  refine JL.g rfl rfl rfl rfl rfl (fun hg => (QW.move (.tmp rfl))) ?_
  refine JL.g rfl rfl rfl rfl rfl (fun hg => (QW.call gofn31 (.cons (.when rfl hg) .nil) (by (apply rclass_ok <;> first | assumption | omega)))) ?_
  refine JL.g rfl rfl rfl rfl rfl (fun hg => (QW.eql (.when rfl hg) (.when rfl hg))) ?_
  refine JL.q rfl rfl rfl (QW.pick_and (.tmp rfl) (.tmp rfl)) ?_
  refine JL.q rfl rfl rfl (QW.move (.tmp rfl)) ?_
  refine JL.g rfl rfl rfl rfl rfl (fun hg => (QW.move (.tmp rfl))) ?_
  refine JL.g rfl rfl rfl rfl rfl (fun hg => (QW.call gofn13 (.cons (.when rfl hg) .nil) (by (apply order_ok <;> first | assumption | omega)))) ?_
  refine JL.g rfl rfl rfl rfl rfl (fun hg => (QW.move (.tmp rfl))) ?_
  refine JL.g rfl rfl rfl rfl rfl (fun hg => (QW.call gofn32 (.cons (.when rfl hg) .nil) (by (apply rorder_ok <;> first | assumption | omega)))) ?_
  refine JL.g rfl rfl rfl rfl rfl (fun hg => (QW.eql (.when rfl hg) (.when rfl hg))) ?_
  refine JL.q rfl rfl rfl (QW.pick_and (.tmp rfl) (.tmp rfl)) ?_
  refine JL.q rfl rfl rfl (QW.move (.tmp rfl)) ?_
  refine JL.g rfl rfl rfl rfl rfl (fun hg => (QW.move (.tmp rfl))) ?_
  refine JL.g rfl rfl rfl rfl rfl (fun hg => (QW.call gofn24 (.cons (.when rfl hg) .nil) (by (apply floor_ok <;> first | assumption | omega)))) ?_
  refine JL.g rfl rfl rfl rfl rfl (fun hg => (QW.move (.tmp rfl))) ?_
  refine JL.g rfl rfl rfl rfl rfl (fun hg => (QW.call gofn33 (.cons (.when rfl hg) .nil) (by (apply rfloor_ok <;> first | assumption | omega)))) ?_
  refine JL.g rfl rfl rfl rfl rfl (fun hg => (QW.eql (.when rfl hg) (.when rfl hg))) ?_
  refine JL.q rfl rfl rfl (QW.pick_and (.tmp rfl) (.tmp rfl)) ?_
  refine JL.q rfl rfl rfl (QW.move (.tmp rfl)) ?_
  refine JL.g rfl rfl rfl rfl rfl (fun hg => (QW.move (.tmp rfl))) ?_
  refine JL.g rfl rfl rfl rfl rfl (fun hg => (QW.move (.tmp rfl))) ?_
  refine JL.g rfl rfl rfl rfl rfl (fun hg => (QW.eql (.when rfl hg) (.when rfl hg))) ?_
  refine JL.q rfl rfl rfl (QW.pick_and (.tmp rfl) (.tmp rfl)) ?_
  refine JL.q rfl rfl rfl (QW.move (.tmp rfl)) ?_
  refine JL.g rfl rfl rfl rfl rfl (fun hg => (QW.move (.tmp rfl))) ?_
  refine JL.g rfl rfl rfl rfl rfl (fun hg => (QW.call gofn26 (.cons (.when rfl hg) .nil) (by (apply num01_ok <;> first | assumption | omega)))) ?_
  refine JL.g rfl rfl rfl rfl rfl (fun hg => (QW.move (.tmp rfl))) ?_
  refine JL.g rfl rfl rfl rfl rfl (fun hg => (QW.eql (.when rfl hg) (.when rfl hg))) ?_
  refine JL.q rfl rfl rfl (QW.pick_and (.tmp rfl) (.tmp rfl)) ?_
  refine JL.q rfl rfl rfl (QW.move (.tmp rfl)) ?_
  refine JL.g rfl rfl rfl rfl rfl (fun hg => (QW.move (.tmp rfl))) ?_
  refine JL.g rfl rfl rfl rfl rfl (fun hg => (QW.move (.tmp rfl))) ?_
  refine JL.g rfl rfl rfl rfl rfl (fun hg => (QW.eql (.when rfl hg) (.when rfl hg))) ?_
  refine JL.q rfl rfl rfl (QW.pick_and (.tmp rfl) (.tmp rfl)) ?_
  refine JL.q rfl rfl rfl (QW.move (.tmp rfl)) ?_
  refine JL.g rfl rfl rfl rfl rfl (fun hg => (QW.move (.tmp rfl))) ?_
  refine JL.g rfl rfl rfl rfl rfl (fun hg => (QW.call gofn26 (.cons (.when rfl hg) .nil) (by (apply num01_ok <;> first | assumption | omega)))) ?_
  refine JL.g rfl rfl rfl rfl rfl (fun hg => (QW.move (.tmp rfl))) ?_
  refine JL.g rfl rfl rfl rfl rfl (fun hg => (QW.eql (.when rfl hg) (.when rfl hg))) ?_
  refine JL.q rfl rfl rfl (QW.pick_and (.tmp rfl) (.tmp rfl)) ?_
  refine JL.q rfl rfl rfl (QW.move (.tmp rfl)) ?_
  refine JL.g rfl rfl rfl rfl rfl (fun hg => (QW.call gofn11 .nil (by (apply alive01_ok <;> first | assumption | omega)))) ?_
  refine JL.q rfl rfl rfl (QW.pick_and (.tmp rfl) (.tmp rfl)) ?_
  refine JL.q rfl rfl rfl (QW.assign (.tmp rfl)) ?_
  refine JL.nil ?_
  refine thenQ.n ?_
  refine J.ret ?_
  exact ⟨_, [], _, RetEv.one rfl (REv.tmp rfl (.refl _)), rfl, List.Perm.refl _, ret_bool (by simp), rfl⟩

end Go.Proofs.Ytppoepenmpcbnaa.J
