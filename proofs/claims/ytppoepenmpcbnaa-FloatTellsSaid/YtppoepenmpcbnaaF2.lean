/- Numbers: what can be written exactly is; the floor and what is cut off, as whole numbers. -/
import Derived.Test.YtppoepenmpcbnaaF1
namespace Go.Proofs.Ytppoepenmpcbnaa.J
open Go Go.RowKit
set_option linter.unusedVariables false
set_option linter.unusedSimpArgs false

theorem cut_exact (way : Ieee.Toward) (s : Bool) (k d : Nat) : way.cut s (k * 2 ^ d) d = k := by
  have hg : ∃ g, (1 <<< min d ((k * 2 ^ d).log2 + 2) = g) ∧ 0 < g ∧ (k * 2 ^ d) / g = k ∧ (k * 2 ^ d) % g = 0 := by
    refine ⟨_, rfl, ?_, ?_⟩
    · rw [Nat.shiftLeft_eq, Nat.one_mul]; exact Nat.two_pow_pos _
    · rw [Nat.shiftLeft_eq, Nat.one_mul]
      by_cases hk : k = 0
      · subst hk; simp
      · have hd : d ≤ (k * 2 ^ d).log2 := by
          rw [Nat.le_log2 (Nat.mul_ne_zero hk (Nat.ne_of_gt (Nat.two_pow_pos _)))]
          exact Nat.le_mul_of_pos_left _ (Nat.pos_of_ne_zero hk)
        rw [Nat.min_eq_left (by omega)]
        exact ⟨Nat.mul_div_cancel _ (Nat.two_pow_pos _), Nat.mul_mod_left _ _⟩
  obtain ⟨g, h1, h2, h3, h4⟩ := hg
  unfold Ieee.Toward.cut
  simp only [h1, h3, h4]
  cases way <;> simp <;> omega

theorem cut_zero (way : Ieee.Toward) (s : Bool) (k : Nat) : way.cut s k 0 = k := by
  have := cut_exact way s k 0
  rwa [Nat.pow_zero, Nat.mul_one] at this

theorem magn_zero : magn 0 = 0 := by decide
theorem magn_eq0 {r : Nat} (h : magn r = 0) : r = 0 := magn_inj.2.1 (h.trans magn_zero.symm)

theorem log_bounds {m i V : Nat} (hm : m ≠ 0) (h : m * 2 ^ i = V) : 2 ^ (m.log2 + i) ≤ V ∧ V < 2 ^ (m.log2 + i + 1) := by
  have h1 : 2 ^ m.log2 ≤ m := (Nat.le_log2 hm).1 (Nat.le_refl _)
  have h2 : m < 2 ^ (m.log2 + 1) := (Nat.log2_lt hm).1 (by omega)
  subst h
  rw [Nat.pow_add, show m.log2 + i + 1 = (m.log2 + 1) + i by omega, Nat.pow_add 2 (m.log2 + 1)]
  exact ⟨Nat.mul_le_mul_right _ h1, Nat.mul_lt_mul_of_pos_right h2 (Nat.two_pow_pos _)⟩

theorem pow_lt {a b : Nat} (h : 2 ^ a < 2 ^ b) : a < b := (Nat.pow_lt_pow_iff_right (by decide)).1 h

theorem mul_pow_sub {m i a q : Nat} (h : m * 2 ^ i = q * 2 ^ a) (ha : a ≤ i) : m * 2 ^ (i - a) = q := by
  have : m * 2 ^ (i - a) * 2 ^ a = q * 2 ^ a := by rw [Nat.mul_assoc, ← Nat.pow_add, Nat.sub_add_cancel ha, h]
  exact Nat.eq_of_mul_eq_mul_right (Nat.two_pow_pos _) this

theorem nearest_at {s : Bool} {m : Nat} {i : Nat} (hm : m ≠ 0) (a : Nat) (ha : (a : Int) = max ((m.log2 : Int) + i - 52) 0) :
    Ieee.double.nearest s m (leastP + i) = Ieee.double.word s (min (a * 2 ^ 52 + Ieee.Toward.even.cut s (m * 2 ^ (i - a)) (a - i)) infR) := by
  unfold Ieee.Format.nearest
  rw [if_neg hm]
  have hl : max (leastP + (i : Int) + (m.log2 : Int) - ((Ieee.double.fractionBits : Nat) : Int)) Ieee.double.leastPlace = leastP + (a : Int) := by
    have e : Ieee.double.leastPlace = leastP := by decide
    have e2 : ((Ieee.double.fractionBits : Nat) : Int) = 52 := by decide
    rw [e, e2, ha]
    omega
  simp only [hl]
  have e3 : Ieee.double.leastPlace = leastP := by decide
  rw [e3, show (leastP + (i : Int) - (leastP + (a : Int))).toNat = i - a by omega, show (leastP + (a : Int) - (leastP + (i : Int))).toNat = a - i by omega, show (leastP + (a : Int) - leastP).toNat = a by omega, Nat.shiftLeft_eq]
  rfl

theorem nearest_exact {s : Bool} {m r : Nat} (i : Nat) (h : m * 2 ^ i = magn r) (hf : r < infR) : Ieee.double.nearest s m (leastP + i) = Ieee.double.word s r := by
  by_cases hm : m = 0
  · subst hm
    rw [Nat.zero_mul] at h
    rw [magn_eq0 h.symm]
    simp [Ieee.Format.nearest]
  · have hb := log_bounds hm h
    by_cases h1 : r < 2 ^ 52
    · have hv : magn r = r := by simp [magn, h1]
      rw [hv] at h hb
      have : m.log2 + i < 52 := pow_lt (Nat.lt_of_le_of_lt hb.1 h1)
      rw [nearest_at hm 0 (by omega), Nat.sub_zero, Nat.zero_sub, cut_zero, h, Nat.zero_mul, Nat.zero_add, Nat.min_eq_left (Nat.le_of_lt hf)]
    · obtain ⟨a, f, hr, hff, hv⟩ : ∃ a f, r = (a + 1) * 2 ^ 52 + f ∧ f < 2 ^ 52 ∧ magn r = (2 ^ 52 + f) * 2 ^ a :=
        ⟨r / 2 ^ 52 - 1, r % 2 ^ 52, by omega, Nat.mod_lt _ (by decide), by simp [magn, h1]⟩
      rw [hv] at h hb
      have hp := Nat.two_pow_pos a
      have e1 : 2 ^ (m.log2 + i) < 2 ^ (53 + a) := by
        refine Nat.lt_of_le_of_lt hb.1 ?_
        rw [Nat.pow_add]
        exact Nat.mul_lt_mul_of_pos_right (by omega) hp
      have e2 : 2 ^ (52 + a) < 2 ^ (m.log2 + i + 1) := by
        refine Nat.lt_of_le_of_lt ?_ hb.2
        rw [Nat.pow_add]
        exact Nat.mul_le_mul_right _ (by omega)
      have e3 := pow_lt e1
      have e4 := pow_lt e2
      have hk : Ieee.Toward.even.cut s (m * 2 ^ (i - a)) (a - i) = 2 ^ 52 + f := by
        by_cases hia : a ≤ i
        · rw [show a - i = 0 by omega, cut_zero, mul_pow_sub h hia]
        · rw [show i - a = 0 by omega, Nat.pow_zero, Nat.mul_one, ← mul_pow_sub h.symm (by omega), cut_exact]
      rw [nearest_at hm a (by omega), hk, show a * 2 ^ 52 + (2 ^ 52 + f) = r by omega, Nat.min_eq_left (Nat.le_of_lt hf)]

/-- The unit of the words: 1 is 2^1074 of the least number. -/
def uP : Nat := 1074
theorem uP_eq : uP = 1074 := rfl
def unitV : Nat := 2 ^ uP
theorem unit_eq : unitV = 2 ^ uP := rfl
def oneR : Nat := 1023 * 2 ^ 52
theorem two_pow_split (c u : Nat) (h : u = 52 + c) : 2 ^ 52 * 2 ^ c = 2 ^ u := by subst h; exact (Nat.pow_add 2 52 c).symm
theorem magn_one : magn oneR = unitV := by
  rw [show oneR = 1023 * 2 ^ 52 from rfl]
  unfold magn
  rw [if_neg (by omega), show 1023 * 2 ^ 52 % 2 ^ 52 = 0 by omega, show 1023 * 2 ^ 52 / 2 ^ 52 - 1 = 1022 by omega, Nat.add_zero, unit_eq]
  exact two_pow_split 1022 uP rfl

theorem cut_le {s : Bool} {n d q : Nat} (hd : d ≤ n.log2 + 2) (h : n < q * 2 ^ d) : Ieee.Toward.even.cut s n d ≤ q := by
  unfold Ieee.Toward.cut
  simp only [Nat.min_eq_left hd, Nat.shiftLeft_eq, Nat.one_mul]
  have : n / 2 ^ d < q := (Nat.div_lt_iff_lt_mul (Nat.two_pow_pos _)).2 h
  have hb : ∀ b : Bool, b.toNat ≤ 1 := fun b => by cases b <;> decide
  have := hb (decide (2 ^ d < 2 * (n % 2 ^ d)) || 2 ^ d == 2 * (n % 2 ^ d) && n / 2 ^ d % 2 == 1)
  omega

/-- What is at most 1 is written as at most 1. -/
theorem nearest_le_one {s : Bool} {m i : Nat} (h : m * 2 ^ i ≤ unitV) : ∃ r, r ≤ oneR ∧ Ieee.double.nearest s m (leastP + i) = Ieee.double.word s r := by
  by_cases he : m * 2 ^ i = unitV
  · exact ⟨oneR, Nat.le_refl _, nearest_exact i (he.trans magn_one.symm) (by decide)⟩
  · by_cases hm : m = 0
    · exact ⟨0, Nat.zero_le _, by simp [Ieee.Format.nearest, hm]⟩
    · have hb := log_bounds hm rfl (i := i)
      have hlt : m.log2 + i < 1074 := by
        rw [← uP_eq]
        have h3 := Nat.lt_of_le_of_lt hb.1 (Nat.lt_of_le_of_ne h he)
        rw [unit_eq] at h3
        exact pow_lt h3
      refine ⟨_, ?_, nearest_at hm (m.log2 + i - 52) (by omega)⟩
      have hk : Ieee.Toward.even.cut s (m * 2 ^ (i - (m.log2 + i - 52))) (m.log2 + i - 52 - i) ≤ 2 ^ 53 := by
        by_cases hia : m.log2 + i - 52 ≤ i
        · rw [show m.log2 + i - 52 - i = 0 by omega, cut_zero]
          have h2 : m < 2 ^ (m.log2 + 1) := (Nat.log2_lt hm).1 (by omega)
          calc m * 2 ^ (i - (m.log2 + i - 52)) ≤ 2 ^ (m.log2 + 1) * 2 ^ (i - (m.log2 + i - 52)) := Nat.mul_le_mul_right _ (Nat.le_of_lt h2)
            _ = 2 ^ (m.log2 + 1 + (i - (m.log2 + i - 52))) := (Nat.pow_add _ _ _).symm
            _ ≤ 2 ^ 53 := Nat.pow_le_pow_right (by decide) (by omega)
        · rw [show i - (m.log2 + i - 52) = 0 by omega, Nat.pow_zero, Nat.mul_one, show m.log2 + i - 52 - i = m.log2 - 52 by omega]
          refine cut_le (by omega) ?_
          rw [← Nat.pow_add]
          refine Nat.lt_of_lt_of_le ((Nat.log2_lt hm).1 (Nat.lt_succ_self _)) (Nat.pow_le_pow_right (by decide) (by omega))
      unfold oneR
      refine Nat.le_trans (Nat.min_le_left _ _) ?_
      omega

theorem sgn_eq {b : Nat} (h : b < 2 ^ 64) : sgn b = decide (2 ^ 63 ≤ b) := by
  unfold sgn
  by_cases h1 : 2 ^ 63 ≤ b
  · rw [show b / 2 ^ 63 = 1 by omega]; simp; omega
  · rw [show b / 2 ^ 63 = 0 by omega]; simp; omega
theorem word_self {b : Nat} (h : b < 2 ^ 64) : Ieee.double.word (sgn b) (rung b) = b := by
  have hw : ∀ s r, Ieee.double.word s r = if s then 2 ^ 63 + r else r := fun s r => rfl
  rw [hw, sgn_eq h]
  unfold rung
  by_cases h1 : 2 ^ 63 ≤ b
  · simp only [h1, decide_true, if_true]; omega
  · simp only [h1, decide_false, if_false, Bool.false_eq_true]; omega
theorem order_word {s : Bool} {r : Nat} (h : r ≤ infR) : orderN (Ieee.double.word s r) = if s then 2 ^ 63 - 1 - r else 2 ^ 63 + r := by
  have hw : Ieee.double.word s r = if s then 2 ^ 63 + r else r := rfl
  unfold orderN
  rw [isNan_word h, if_neg (by decide), hw]
  unfold infR at h
  cases s <;> simp only [if_true, if_false, Bool.false_eq_true]
  · rw [if_neg (by omega)]; omega
  · rw [if_pos (by omega)]; omega

/-- A whole number up to 2^53 is written exactly. -/
theorem whole_rung {k : Nat} (h : k ≤ 2 ^ 53) : ∃ r, r < infR ∧ magn r = k * unitV ∧ r ≤ 1076 * 2 ^ 52 := by
  have hu := unit_eq
  by_cases h0 : k = 0
  · exact ⟨0, by decide, by rw [h0, Nat.zero_mul]; exact magn_zero, by decide⟩
  by_cases h1 : k = 2 ^ 53
  · refine ⟨1076 * 2 ^ 52, by decide, ?_, Nat.le_refl _⟩
    unfold magn
    rw [if_neg (by omega), show 1076 * 2 ^ 52 % 2 ^ 52 = 0 by omega, show 1076 * 2 ^ 52 / 2 ^ 52 - 1 = 1 + uP by have := uP_eq; omega, Nat.add_zero, h1, hu, Nat.pow_add, ← Nat.mul_assoc]
  · have hl : k.log2 < 53 := (Nat.log2_lt h0).2 (by omega)
    have a1 : 2 ^ k.log2 ≤ k := (Nat.le_log2 h0).1 (Nat.le_refl _)
    have a2 : k < 2 ^ (k.log2 + 1) := (Nat.log2_lt h0).1 (by omega)
    have b1 : 2 ^ 52 ≤ k * 2 ^ (52 - k.log2) := by
      have := Nat.mul_le_mul_right (2 ^ (52 - k.log2)) a1
      rwa [← Nat.pow_add, Nat.add_sub_cancel' (show k.log2 ≤ 52 by omega)] at this
    have b2 : k * 2 ^ (52 - k.log2) < 2 ^ 53 := by
      have := Nat.mul_lt_mul_of_pos_right a2 (Nat.two_pow_pos (52 - k.log2))
      rwa [← Nat.pow_add, show k.log2 + 1 + (52 - k.log2) = 53 by omega] at this
    refine ⟨(k.log2 + 1023) * 2 ^ 52 + (k * 2 ^ (52 - k.log2) - 2 ^ 52), ?_, ?_, by omega⟩
    · unfold infR; omega
    · unfold magn
      rw [if_neg (by omega), show ((k.log2 + 1023) * 2 ^ 52 + (k * 2 ^ (52 - k.log2) - 2 ^ 52)) % 2 ^ 52 = k * 2 ^ (52 - k.log2) - 2 ^ 52 by omega,
        show ((k.log2 + 1023) * 2 ^ 52 + (k * 2 ^ (52 - k.log2) - 2 ^ 52)) / 2 ^ 52 - 1 = k.log2 + 1022 by omega, Nat.add_sub_cancel' b1, Nat.mul_assoc, ← Nat.pow_add, hu]
      have e : 52 - k.log2 + (k.log2 + 1022) = uP := by rw [uP_eq]; omega
      rw [e]

theorem unit_pos : 0 < unitV := by rw [unit_eq]; exact Nat.two_pow_pos _

/-- What is no multiple of 1 is less than 2^52. -/
theorem magn_part {r : Nat} (h : magn r % unitV ≠ 0) : magn r < 2 ^ 52 * unitV := by
  have hu := unit_eq
  unfold magn at *
  split at h
  · rename_i h1
    rw [if_pos h1]
    exact Nat.lt_of_lt_of_le h1 (Nat.le_mul_of_pos_right _ unit_pos)
  · rename_i h1
    rw [if_neg h1]
    have ha : r / 2 ^ 52 - 1 < uP := by
      apply Nat.lt_of_not_le
      intro hle
      apply h
      obtain ⟨c, hc⟩ := Nat.exists_eq_add_of_le hle
      rw [hc, Nat.pow_add, ← hu, Nat.mul_comm unitV, ← Nat.mul_assoc]
      exact Nat.mul_mod_left _ _
    have hf : r % 2 ^ 52 < 2 ^ 52 := Nat.mod_lt _ (by decide)
    obtain ⟨w, hw⟩ : ∃ w, uP = 1 + w := ⟨1073, rfl⟩
    calc (2 ^ 52 + r % 2 ^ 52) * 2 ^ (r / 2 ^ 52 - 1) ≤ (2 ^ 52 + r % 2 ^ 52) * 2 ^ w := Nat.mul_le_mul_left _ (Nat.pow_le_pow_right (by decide) (by omega))
      _ < (2 ^ 52 * 2 ^ 1) * 2 ^ w := Nat.mul_lt_mul_of_pos_right (by omega) (Nat.two_pow_pos _)
      _ = 2 ^ 52 * unitV := by rw [hu, hw, Nat.pow_add 2 1 w, Nat.mul_assoc]

/-- What 'integral' makes of a finite number: the whole part and what is left. -/
def wholeK (way : Ieee.Toward) (s : Bool) (V : Nat) : Nat := V / unitV + (way == .down && s && V % unitV != 0).toNat

theorem integral_fin (way : Ieee.Toward) (hw : way = .down ∨ way = .zero) {s : Bool} {m a : Nat} :
    (Ieee.Datum.number s m (leastP + a)).integral way = .number s (wholeK way s (m * 2 ^ a)) (leastP + (uP : Nat)) := by
  show Ieee.Datum.number s (way.cut s (m <<< (leastP + (a : Int)).toNat) (-(leastP + (a : Int))).toNat) 0 = _
  have hp := uP_eq
  have e0 : leastP + ((uP : Nat) : Int) = 0 := by decide
  rw [e0]
  congr 1
  have hu := unit_eq
  rw [Nat.shiftLeft_eq]
  have hl : leastP = -1074 := rfl
  by_cases h : uP ≤ a
  · obtain ⟨c, rfl⟩ := Nat.exists_eq_add_of_le h
    rw [show (leastP + ((uP + c : Nat) : Int)).toNat = c by omega, show (-(leastP + ((uP + c : Nat) : Int))).toNat = 0 by omega, cut_zero]
    unfold wholeK
    have e : m * 2 ^ (uP + c) = m * 2 ^ c * unitV := by rw [Nat.pow_add, ← hu, Nat.mul_comm unitV, Nat.mul_assoc]
    rw [e, Nat.mul_div_cancel _ unit_pos, Nat.mul_mod_left]
    simp
  · rw [show (leastP + (a : Int)).toNat = 0 by omega, Nat.pow_zero, Nat.mul_one]
    obtain ⟨d, hd⟩ : ∃ d, (-(leastP + (a : Int))).toNat = d ∧ d + a = uP := ⟨_, rfl, by omega⟩
    rw [hd.1]
    have hU : unitV = 2 ^ d * 2 ^ a := by rw [← Nat.pow_add, hd.2, hu]
    have q1 : m * 2 ^ a / unitV = m / 2 ^ d := by rw [hU]; exact Nat.mul_div_mul_right _ _ (Nat.two_pow_pos _)
    have q2 : m * 2 ^ a % unitV = m % 2 ^ d * 2 ^ a := by rw [hU]; exact Nat.mul_mod_mul_right _ _ _
    have q3 : (m * 2 ^ a % unitV != 0) = (m % 2 ^ d != 0) := by
      rw [q2, Bool.eq_iff_iff]
      have := Nat.ne_of_gt (Nat.two_pow_pos a)
      simp only [bne_iff_ne, ne_eq, Nat.mul_eq_zero, this, or_false]
    unfold wholeK
    rw [q1, q3]
    unfold Ieee.Toward.cut
    have hg : ∃ g, 1 <<< min d (m.log2 + 2) = g ∧ m / g = m / 2 ^ d ∧ m % g = m % 2 ^ d := by
      refine ⟨_, rfl, ?_⟩
      rw [Nat.shiftLeft_eq, Nat.one_mul]
      by_cases hle : d ≤ m.log2 + 2
      · rw [Nat.min_eq_left hle]; exact ⟨rfl, rfl⟩
      · rw [Nat.min_eq_right (by omega)]
        have l1 : m < 2 ^ (m.log2 + 2) := by
          by_cases hm : m = 0
          · subst hm; exact Nat.two_pow_pos _
          · exact Nat.lt_trans ((Nat.log2_lt hm).1 (Nat.lt_succ_self _)) (Nat.pow_lt_pow_right (by decide) (by omega))
        have l2 : m < 2 ^ d := Nat.lt_of_lt_of_le l1 (Nat.pow_le_pow_right (by decide) (by omega))
        rw [Nat.div_eq_of_lt l1, Nat.div_eq_of_lt l2, Nat.mod_eq_of_lt l1, Nat.mod_eq_of_lt l2]
        exact ⟨rfl, rfl⟩
    obtain ⟨g, g1, g2, g3⟩ := hg
    simp only [g1, g2, g3]
    rcases hw with rfl | rfl
    · rfl
    · simp

theorem write_number {s : Bool} {k i r : Nat} (h : k * 2 ^ i = magn r) (hf : r < infR) : Ieee.double.write (.number s k (leastP + i)) = Ieee.double.word s r := nearest_exact i h hf

/-- The floor (or what is left of the point) of a finite number: the word of a rung. -/
theorem integral_word (way : Ieee.Toward) (hw : way = .down ∨ way = .zero) {b : Nat} (hb : rung b < infR) :
    ∃ r, r < infR ∧ Ieee.double.write ((rdw b).integral way) = Ieee.double.word (sgn b) r ∧ magn r = wholeK way (sgn b) (magn (rung b)) * unitV := by
  obtain ⟨m, a, hd, hm⟩ := rdw_finite hb
  rw [hd, integral_fin way hw, hm]
  have key : ∃ r, r < infR ∧ magn r = wholeK way (sgn b) (magn (rung b)) * unitV := by
    by_cases hz : magn (rung b) % unitV = 0
    · refine ⟨rung b, hb, ?_⟩
      unfold wholeK
      rw [hz]
      have := Nat.div_add_mod (magn (rung b)) unitV
      rw [hz, Nat.add_zero, Nat.mul_comm] at this
      simp [this]
    · have h1 : magn (rung b) / unitV < 2 ^ 52 := (Nat.div_lt_iff_lt_mul unit_pos).2 (magn_part hz)
      have hb1 : ∀ b : Bool, b.toNat ≤ 1 := fun b => by cases b <;> decide
      have h2 : wholeK way (sgn b) (magn (rung b)) ≤ 2 ^ 53 := by unfold wholeK; have := hb1 (way == .down && sgn b && magn (rung b) % unitV != 0); omega
      obtain ⟨r, r1, r2, _⟩ := whole_rung h2
      exact ⟨r, r1, r2⟩
  obtain ⟨r, r1, r2⟩ := key
  exact ⟨r, r1, write_number (by rw [r2, unit_eq]) r1, r2⟩
end Go.Proofs.Ytppoepenmpcbnaa.J
