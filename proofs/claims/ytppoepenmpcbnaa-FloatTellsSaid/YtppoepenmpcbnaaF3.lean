/- Numbers: the laws of the floor, of whole numbers there and back, and of the page's own answers. -/
import Derived.Test.YtppoepenmpcbnaaF2
namespace Go.Proofs.Ytppoepenmpcbnaa.J
open Go Go.RowKit
set_option linter.unusedVariables false
set_option linter.unusedSimpArgs false

def sv (s : Bool) (V : Nat) : Int := if s then -(V : Int) else V

theorem sum_fin (s t : Bool) (m k a c : Nat) : ∃ T : Int, (Ieee.Datum.number s m (leastP + a)).sum (.number t k (leastP + c)) = some (.number (if T = 0 then s && t else decide (T < 0)) T.natAbs (leastP + ((min a c : Nat) : Int))) ∧
    T * 2 ^ (min a c) = sv s (m * 2 ^ a) + sv t (k * 2 ^ c) := by
  have hb : min (leastP + (a : Int)) (leastP + c) = leastP + ((min a c : Nat) : Int) := by
    rcases Nat.le_total a c with h | h
    · rw [Nat.min_eq_left h, Int.min_eq_left (by omega)]
    · rw [Nat.min_eq_right h, Int.min_eq_right (by omega)]
  refine ⟨Ieee.signed s m (a - min a c) + Ieee.signed t k (c - min a c), ?_, ?_⟩
  · simp only [Ieee.Datum.sum, hb]
    rw [show (leastP + (a : Int) - (leastP + ((min a c : Nat) : Int))).toNat = a - min a c by omega, show (leastP + (c : Int) - (leastP + ((min a c : Nat) : Int))).toNat = c - min a c by omega]
  · rw [Int.add_mul, ← signed_scale s m a (min a c) (Nat.min_le_left _ _), ← signed_scale t k c (min a c) (Nat.min_le_right _ _), signed_magn' , signed_magn']
where
  signed_magn' {s : Bool} {m a : Nat} : Ieee.signed s m a = sv s (m * 2 ^ a) := by
    rw [signed_eq]; unfold sv
    cases s <;> simp [Int.neg_mul]

theorem natAbs_pow {T X : Int} {j : Nat} (h : T * 2 ^ j = X) : T.natAbs * 2 ^ j = X.natAbs := by
  rw [← h, Int.natAbs_mul, Int.natAbs_pow]; rfl

theorem floorC_fin {b : Nat} (hf : rung b < infR) : floorC b = floorN b := by
  unfold floorC
  rw [isNan_eq, decide_eq_false (by omega), if_neg (by decide)]

theorem word_parts {s : Bool} {r : Nat} (h : r < infR) : rung (Ieee.double.word s r) = r ∧ sgn (Ieee.double.word s r) = s ∧ Ieee.double.word s r < 2 ^ 64 := word_rung (Nat.lt_trans h infR_lt)

/-- The floor of a finite number. -/
theorem floor_word {b : Nat} (hf : rung b < infR) : ∃ r, r < infR ∧ floorC b = Ieee.double.word (sgn b) r ∧ magn r = wholeK .down (sgn b) (magn (rung b)) * unitV := by
  rw [floorC_fin hf]; exact integral_word .down (.inl rfl) hf

theorem whole_multiple (way : Ieee.Toward) (s : Bool) (k : Nat) : wholeK way s (k * unitV) = k := by
  unfold wholeK
  rw [Nat.mul_div_cancel _ unit_pos, Nat.mul_mod_left]; simp

theorem floor_again {b : Nat} (hf : rung b < infR) : floorC (floorC b) = floorC b := by
  obtain ⟨r, h1, h2, h3⟩ := floor_word hf
  obtain ⟨w1, w2, w3⟩ := word_parts (s := sgn b) h1
  rw [h2]
  obtain ⟨r', k1, k2, k3⟩ := floor_word (b := Ieee.double.word (sgn b) r) (by rw [w1]; exact h1)
  rw [k2, w2]
  rw [w1, w2, h3, whole_multiple] at k3
  rw [magn_inj.2.1 (k3.trans h3.symm)]

theorem whole_bounds (s : Bool) (V : Nat) : (s = false → wholeK .down s V * unitV ≤ V) ∧ (s = true → V ≤ wholeK .down s V * unitV) ∧
    (sv s V + sv (!s) (wholeK .down s V * unitV)).natAbs ≤ unitV := by
  obtain ⟨q, d, hq, hd, hV, hlt⟩ : ∃ q d, V / unitV = q ∧ V % unitV = d ∧ V = q * unitV + d ∧ d < unitV :=
    ⟨_, _, rfl, rfl, by rw [Nat.mul_comm]; exact (Nat.div_add_mod V unitV).symm, Nat.mod_lt V unit_pos⟩
  unfold wholeK sv
  rw [hq, hd]
  subst hV
  clear hq hd
  cases s
  · simp
    generalize q * unitV = w
    omega
  · by_cases hz : d = 0
    · subst hz
      simp
      generalize q * unitV = w
      omega
    · have : (d != 0) = true := by simpa using hz
      simp [this, Nat.add_mul]
      generalize q * unitV = w
      omega

theorem floor_order {b : Nat} (hb : b < 2 ^ 64) (hf : rung b < infR) : orderN (floorC b) ≤ orderN b := by
  obtain ⟨r, h1, h2, h3⟩ := floor_word hf
  obtain ⟨q1, q2, _⟩ := whole_bounds (sgn b) (magn (rung b))
  rw [h2, order_word (Nat.le_of_lt h1)]
  have e : orderN b = orderN (Ieee.double.word (sgn b) (rung b)) := by rw [word_self hb]
  rw [e, order_word (Nat.le_of_lt hf)]
  cases hs : sgn b
  · simp only [Bool.false_eq_true, if_false]
    rw [hs] at q1 h3
    have : ¬ magn (rung b) < magn r := by rw [h3]; exact Nat.not_lt.2 (q1 rfl)
    have h5 : r ≤ rung b := Nat.not_lt.1 fun h => this (magn_inj.1.2 h)
    omega
  · simp only [if_true]
    rw [hs] at q2 h3
    have : ¬ magn r < magn (rung b) := by rw [h3]; exact Nat.not_lt.2 (q2 rfl)
    have h5 : rung b ≤ r := Nat.not_lt.1 fun h => this (magn_inj.1.2 h)
    omega

theorem one_word : Ieee.double.word false oneR = 4607182418800017408 := by decide

theorem floor_near {b : Nat} (hb : b < 2 ^ 64) (hf : rung b < infR) : orderN (arithN .sub b (floorC b)) ≤ orderN 4607182418800017408 := by
  obtain ⟨r, h1, h2, h3⟩ := floor_word hf
  obtain ⟨_, _, q3⟩ := whole_bounds (sgn b) (magn (rung b))
  obtain ⟨w1, w2, w3⟩ := word_parts (s := sgn b) h1
  obtain ⟨m, a, hd, hm⟩ := rdw_finite hf
  obtain ⟨k, c, hd', hk⟩ := rdw_finite (b := Ieee.double.word (sgn b) r) (by rw [w1]; exact h1)
  rw [w1] at hk
  rw [w2] at hd'
  have e : arithN .sub b (floorC b) = (((rdw b).sum (rdw (floorC b)).opposite).map Ieee.double.write).getD oneNan := rfl
  rw [e, h2, hd, hd']
  obtain ⟨T, t1, t2⟩ := sum_fin (sgn b) (!sgn b) m k a c
  rw [hm, hk, h3] at t2
  have t3 := natAbs_pow t2
  rw [show (Ieee.Datum.number (sgn b) k (leastP + (c : Int))).opposite = .number (!sgn b) k (leastP + (c : Int)) from rfl, t1]
  obtain ⟨r', u1, u2⟩ := nearest_le_one (s := if T = 0 then sgn b && !sgn b else decide (T < 0)) (m := T.natAbs) (i := min a c) (by rw [t3]; exact q3)
  show orderN (Ieee.double.nearest _ _ _) ≤ _
  rw [u2, ← one_word]
  have hi : r' ≤ infR := Nat.le_trans u1 (by decide)
  rw [order_word hi, order_word (r := oneR) (by decide)]
  unfold oneR at *
  generalize (if T = 0 then sgn b && !sgn b else decide (T < 0)) = z
  cases z <;> simp only [Bool.false_eq_true, if_false, if_true] <;> omega

theorem floor_inf {b : Nat} (hb : b < 2 ^ 64) (h : infR ≤ rung b) : floorC b = canonN b := by
  unfold floorC canonN
  cases hn : isNan b with
  | true => rfl
  | false =>
    simp only [Bool.false_eq_true, if_false]
    rw [isNan_eq] at hn; simp at hn
    have he : rung b = infR := by omega
    have hd : rdw b = .infinity (sgn b) := by rw [rdw_eq, if_neg (by unfold infR at he; omega), if_neg (by omega), if_pos he]
    unfold floorN
    rw [hd]
    show Ieee.double.word (sgn b) infR = b
    rw [← he, word_self hb]
end Go.Proofs.Ytppoepenmpcbnaa.J
