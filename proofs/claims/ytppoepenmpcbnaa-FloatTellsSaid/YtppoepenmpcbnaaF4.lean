/- Numbers: whole numbers there and back, and the page's own floor. -/
import Derived.Test.YtppoepenmpcbnaaF3
namespace Go.Proofs.Ytppoepenmpcbnaa.J
open Go Go.RowKit
set_option linter.unusedVariables false
set_option linter.unusedSimpArgs false

/-- Whether a finite number is whole, by its rung. -/
def isWhole (b : Nat) : Prop := magn (rung b) % unitV = 0
instance (b : Nat) : Decidable (isWhole b) := inferInstanceAs (Decidable (_ = _))
def mostR : Nat := 1076 * 2 ^ 52
def intE (b : Nat) : Int := if infR ≤ rung b ∨ ¬ isWhole b then 7 else if mostR < rung b then 4 else 0
def intV (b : Nat) : Int := if infR ≤ rung b ∨ ¬ isWhole b ∨ mostR < rung b then 0 else sv (sgn b) (magn (rung b) / unitV)

theorem magn_most : magn mostR = 2 ^ 53 * unitV := by
  obtain ⟨r, h1, h2, h3⟩ := whole_rung (k := 2 ^ 53) (Nat.le_refl _)
  have hu := unit_eq
  rw [show mostR = 1076 * 2 ^ 52 from rfl]
  unfold magn
  rw [if_neg (by omega), show 1076 * 2 ^ 52 % 2 ^ 52 = 0 by omega, show 1076 * 2 ^ 52 / 2 ^ 52 - 1 = 1 + uP by have := uP_eq; omega, Nat.add_zero, hu, Nat.pow_add, ← Nat.mul_assoc]

theorem whole_mul {V : Nat} (h : V % unitV = 0) : V / unitV * unitV = V := by
  have := Nat.div_add_mod V unitV
  rw [h, Nat.add_zero, Nat.mul_comm] at this
  exact this

theorem wholeK_whole (way : Ieee.Toward) (s : Bool) {V : Nat} (h : V % unitV = 0) : wholeK way s V = V / unitV := by unfold wholeK; rw [h]; simp

theorem floor_whole {b : Nat} (hb : b < 2 ^ 64) (hf : rung b < infR) : floorC b = b ↔ isWhole b := by
  obtain ⟨r, h1, h2, h3⟩ := floor_word hf
  constructor
  · intro h
    rw [h2] at h
    have : rung (Ieee.double.word (sgn b) r) = rung b := by rw [h]
    rw [(word_parts h1).1] at this
    unfold isWhole
    rw [← this, h3]; exact Nat.mul_mod_left _ _
  · intro h
    rw [wholeK_whole _ _ h, whole_mul h] at h3
    rw [h2, magn_inj.2.1 h3, word_self hb]

theorem trunc_whole {b : Nat} (hb : b < 2 ^ 64) (hf : rung b < infR) : (ford b (truncN b) != some .eq) = !decide (isWhole b) := by
  obtain ⟨r, h1, h2, h3⟩ := integral_word .zero (.inr rfl) hf
  obtain ⟨w1, w2, w3⟩ := word_parts (s := sgn b) h1
  have e : truncN b = Ieee.double.word (sgn b) r := h2
  have hk : wholeK .zero (sgn b) (magn (rung b)) = magn (rung b) / unitV := by unfold wholeK; simp
  rw [hk] at h3
  have n1 : isNan b = false := by rw [isNan_eq]; exact decide_eq_false (by omega)
  have n2 : isNan (truncN b) = false := by rw [e]; exact isNan_word (Nat.le_of_lt h1)
  have h4 : (sr b = sr (truncN b)) ↔ isWhole b := by
    unfold sr
    rw [e, w1, w2]
    have : rung b = r ↔ isWhole b := by
      constructor
      · intro h; unfold isWhole; rw [h, h3]; exact Nat.mul_mod_left _ _
      · intro h; rw [whole_mul h] at h3; exact (magn_inj.2.1 h3).symm
    rw [← this]
    split <;> omega
  have h5 := ford_eql n1 n2
  rw [bne, h5]
  rw [decide_eq_decide.2 h4]

theorem trunc_int {b : Nat} (hf : rung b < infR) : (FloatKind.f64.decode b).toInt .zero = some (sv (sgn b) (magn (rung b) / unitV)) := by
  obtain ⟨m, a, hd, hm⟩ := rdw_finite hf
  show (rdw b).toInt .zero = _
  unfold Ieee.Datum.toInt
  rw [hd, integral_fin .zero (.inr rfl), hm]
  show some (Ieee.signed (sgn b) _ 0) = _
  have hk : wholeK .zero (sgn b) (magn (rung b)) = magn (rung b) / unitV := by unfold wholeK; simp
  rw [signed_eq, hk, Int.pow_zero, Int.mul_one]; rfl

theorem small_whole {b : Nat} (h : rung b ≤ mostR) : magn (rung b) / unitV ≤ 2 ^ 53 := by
  have h1 : ¬ magn mostR < magn (rung b) := fun h' => by have := magn_inj.1.1 h'; omega
  rw [magn_most] at h1
  have := Nat.div_le_div_right (c := unitV) (Nat.not_lt.1 h1)
  rwa [Nat.mul_div_cancel _ unit_pos] at this

theorem int_t {b : Nat} (h : infR ≤ rung b ∨ ¬ isWhole b) : intV b = 0 ∧ intE b = 7 := by
  unfold intV intE
  exact ⟨if_pos (h.elim .inl fun h => .inr (.inl h)), if_pos h⟩
theorem int_r {b : Nat} (hf : rung b < infR) (hw : isWhole b) (h : mostR < rung b) : intV b = 0 ∧ intE b = 4 := by
  unfold intV intE
  exact ⟨if_pos (.inr (.inr h)), by rw [if_neg (fun h' => h'.elim (fun h => by omega) (fun h => h hw)), if_pos h]⟩
theorem int_o {b : Nat} (hf : rung b < infR) (hw : isWhole b) (h : rung b ≤ mostR) : intV b = sv (sgn b) (magn (rung b) / unitV) ∧ intE b = 0 := by
  unfold intV intE
  exact ⟨if_neg (fun h' => h'.elim (fun h => by omega) (fun h' => h'.elim (fun h => h hw) (fun h => by omega))), by rw [if_neg (fun h' => h'.elim (fun h => by omega) (fun h => h hw)), if_neg (by omega)]⟩
theorem sv_fits {s : Bool} {K : Nat} (h : K ≤ 2 ^ 53) : -9223372036854775808 ≤ sv s K ∧ sv s K ≤ 9223372036854775807 := by
  unfold sv; split <;> omega
theorem nearest_lt {n : Int} : FloatKind.f64.nearest n < 2 ^ 64 := write_lt64 (.number (n < 0) n.natAbs 0)
theorem near_word {n : Int} (h : -9007199254740992 ≤ n ∧ n ≤ 9007199254740992) : ∃ r, r < infR ∧ r ≤ mostR ∧ FloatKind.f64.nearest n = Ieee.double.word (decide (n < 0)) r ∧ magn r = n.natAbs * unitV := by
  obtain ⟨r, h1, h2, h3⟩ := whole_rung (k := n.natAbs) (by omega)
  refine ⟨r, h1, h3, ?_, h2⟩
  have e0 : leastP + ((uP : Nat) : Int) = 0 := by decide
  show Ieee.double.write (.number (decide (n < 0)) n.natAbs 0) = _
  rw [← e0]
  exact write_number (by rw [h2, unit_eq]) h1

theorem near_back {n : Int} (h : -9007199254740992 ≤ n ∧ n ≤ 9007199254740992) :
    intE (FloatKind.f64.nearest n) = 0 ∧ intV (FloatKind.f64.nearest n) = n ∧ floorC (FloatKind.f64.nearest n) = FloatKind.f64.nearest n ∧ FloatKind.f64.nearest n < 2 ^ 64 := by
  obtain ⟨r, h1, h2, h3, h4⟩ := near_word h
  obtain ⟨w1, w2, w3⟩ := word_parts (s := decide (n < 0)) h1
  have hw : isWhole (Ieee.double.word (decide (n < 0)) r) := by unfold isWhole; rw [w1, h4]; exact Nat.mul_mod_left _ _
  rw [h3]
  refine ⟨?_, ?_, ?_, w3⟩
  · unfold intE; rw [w1, if_neg (by rintro (h | h); omega; exact h hw), if_neg (by omega)]
  · unfold intV
    rw [w1, w2, if_neg (by rintro (h | h | h); omega; exact h hw; omega), h4, Nat.mul_div_cancel _ unit_pos]
    unfold sv
    by_cases hn : n < 0
    · simp [hn]; omega
    · simp [hn]; omega
  · exact (floor_whole w3 (by rw [w1]; exact h1)).2 hw

theorem int_scale (n : Int) (U : Nat) : sv (decide (n < 0)) (n.natAbs * U) = n * U := by
  unfold sv
  by_cases hn : n < 0
  · simp only [hn, decide_true, if_true]
    rw [Int.natCast_mul, show ((n.natAbs : Nat) : Int) = -n by omega, Int.neg_mul, Int.neg_neg]
  · simp only [hn, decide_false, if_false, Bool.false_eq_true]
    rw [Int.natCast_mul, show ((n.natAbs : Nat) : Int) = n by omega]

theorem sign_scale {T n : Int} {j : Nat} (h : T * 2 ^ j = n * (unitV : Nat)) : (T = 0 ↔ n = 0) ∧ (T < 0 ↔ n < 0) := by
  have hp : (0 : Int) < 2 ^ j := Int.pow_pos (by decide)
  have hu : (0 : Int) < (unitV : Nat) := by have := unit_pos; omega
  constructor
  · constructor
    · intro e
      rw [e, Int.zero_mul] at h
      rcases Int.mul_eq_zero.1 h.symm with h | h
      · exact h
      · omega
    · intro e
      rw [e, Int.zero_mul] at h
      rcases Int.mul_eq_zero.1 h with h | h
      · exact h
      · omega
  · constructor
    · intro e
      have := Int.mul_neg_of_neg_of_pos e hp
      rw [h] at this
      apply Int.lt_of_not_ge
      intro hn
      have := Int.mul_nonneg hn (Int.le_of_lt hu)
      omega
    · intro e
      have := Int.mul_neg_of_neg_of_pos e hu
      rw [← h] at this
      apply Int.lt_of_not_ge
      intro hn
      have := Int.mul_nonneg hn (Int.le_of_lt hp)
      omega

/-- A sum of two whole numbers, each a multiple of 1: exactly what is written of their sum. -/
theorem sum_whole {x : Nat} {z p q : Int} (hx : rung x < infR) (hp : sv (sgn x) (magn (rung x)) = p * (unitV : Nat))
    {t : Bool} {k c : Nat} (hs : sv t (k * 2 ^ c) = q * (unitV : Nat)) (hz : z = p + q) (hb : -9007199254740992 ≤ z ∧ z ≤ 9007199254740992) (h0 : z = 0 → (sgn x && t) = false) :
    (((rdw x).sum (.number t k (leastP + c))).map Ieee.double.write).getD oneNan = FloatKind.f64.nearest z := by
  obtain ⟨m, a, hd1, hm⟩ := rdw_finite hx
  rw [hd1]
  obtain ⟨T, t1, t2⟩ := sum_fin (sgn x) t m k a c
  rw [t1]
  rw [hm, hp, hs, ← Int.add_mul, ← hz] at t2
  obtain ⟨s1, s2⟩ := sign_scale t2
  obtain ⟨r, r1, r2, r3, r4⟩ := near_word hb
  have t3 := natAbs_pow t2
  rw [Int.natAbs_mul] at t3
  rw [Option.map_some, Option.getD_some, write_number (r := r) (by rw [t3, r4]; rfl) r1, r3]
  congr 1
  by_cases hT : T = 0
  · rw [if_pos hT, h0 (s1.1 hT), decide_eq_false (by have := s1.1 hT; omega)]
  · rw [if_neg hT, decide_eq_decide]; exact s2

theorem add_one {n : Int} (h : -9007199254740992 ≤ n ∧ n + 1 ≤ 9007199254740992) : arithN .add (FloatKind.f64.nearest n) 4607182418800017408 = FloatKind.f64.nearest (n + 1) := by
  obtain ⟨r, h1, h2, h3, h4⟩ := near_word (n := n) (by omega)
  obtain ⟨w1, w2, w3⟩ := word_parts (s := decide (n < 0)) h1
  obtain ⟨o1, o2, o3⟩ := word_parts (s := false) (r := oneR) (by decide)
  obtain ⟨k, c, hd, hk⟩ := rdw_finite (b := Ieee.double.word false oneR) (by rw [o1]; decide)
  rw [o1, magn_one] at hk
  rw [o2] at hd
  rw [← one_word]
  show (((rdw _).sum (rdw _)).map Ieee.double.write).getD oneNan = _
  rw [hd, h3]
  exact sum_whole (p := n) (q := 1) (by rw [w1]; exact h1) (by rw [w1, w2, h4, int_scale]) (by rw [hk]; unfold sv; simp) rfl (by omega) (fun h => by simp)

/-! ### the page's own floor -/
theorem magn_small {r : Nat} (h : r < 1023 * 2 ^ 52) : magn r < unitV := by
  rw [← magn_one]; exact magn_lt (show r < oneR from h)
theorem magn_big {r : Nat} (h : 1075 * 2 ^ 52 ≤ r) : magn r % unitV = 0 := by
  unfold magn
  rw [if_neg (by omega)]
  obtain ⟨c, hc⟩ : ∃ c, r / 2 ^ 52 - 1 = uP + c := ⟨r / 2 ^ 52 - 1 - uP, by have := uP_eq; omega⟩
  rw [hc, Nat.pow_add, ← unit_eq, Nat.mul_comm unitV, ← Nat.mul_assoc]
  exact Nat.mul_mod_left _ _

/-- Between: the bits below the point. -/
theorem magn_mid {r d : Nat} (h1 : 1023 * 2 ^ 52 ≤ r) (h2 : r < 1075 * 2 ^ 52) (hd : d = 1075 - r / 2 ^ 52) :
    (magn r % unitV = 0 ↔ r % 2 ^ d = 0) ∧ magn (r - r % 2 ^ d) = magn r / unitV * unitV ∧ 1 ≤ d ∧ d ≤ 52 ∧ r % 2 ^ d ≤ r % 2 ^ 52 := by
  have hd1 : 1 ≤ d := by omega
  have hd2 : d ≤ 52 := by omega
  obtain ⟨q, f, hr, hf⟩ : ∃ q f, r = q * 2 ^ 52 + f ∧ f < 2 ^ 52 := ⟨r / 2 ^ 52, r % 2 ^ 52, by omega, Nat.mod_lt _ (by decide)⟩
  obtain ⟨j, hj⟩ : ∃ j, 52 = d + j := ⟨52 - d, by omega⟩
  have e52 : 2 ^ 52 = 2 ^ j * 2 ^ d := by rw [← Nat.pow_add, Nat.add_comm j d, ← hj]
  have hq : r / 2 ^ 52 = q := by omega
  have hfm : r % 2 ^ 52 = f := by omega
  have hm : r % 2 ^ d = f % 2 ^ d := by
    rw [hr, e52, ← Nat.mul_assoc, Nat.add_comm, Nat.add_mul_mod_self_right]
  have hle : f % 2 ^ d ≤ f := Nat.mod_le _ _
  have hU : unitV = 2 ^ d * 2 ^ (q - 1) := by rw [unit_eq, ← Nat.pow_add]; congr 1; have := uP_eq; omega
  have hp := Nat.two_pow_pos (q - 1)
  have hV : magn r = (2 ^ 52 + f) * 2 ^ (q - 1) := by unfold magn; rw [if_neg (by omega), hq, hfm]
  have hlow : (2 ^ 52 + f) % 2 ^ d = f % 2 ^ d := by rw [e52, Nat.add_comm, Nat.add_mul_mod_self_right]
  have v1 : magn r % unitV = f % 2 ^ d * 2 ^ (q - 1) := by rw [hV, hU, Nat.mul_mod_mul_right, hlow]
  have v2 : magn r / unitV * unitV = (2 ^ 52 + (f - f % 2 ^ d)) * 2 ^ (q - 1) := by
    have this := Nat.div_add_mod (2 ^ 52 + f) (2 ^ d)
    rw [hlow, Nat.mul_comm] at this
    have e3 : (2 ^ 52 + f) / 2 ^ d * 2 ^ d = 2 ^ 52 + (f - f % 2 ^ d) := by omega
    rw [hV, hU, Nat.mul_div_mul_right _ _ hp, ← Nat.mul_assoc, e3]
  refine ⟨?_, ?_, hd1, hd2, by rw [hm, hfm]; exact hle⟩
  · rw [v1, hm]
    constructor
    · intro h
      rcases Nat.mul_eq_zero.1 h with h | h
      · exact h
      · omega
    · intro h; rw [h, Nat.zero_mul]
  · rw [v2, hm, hr]
    generalize f % 2 ^ d = g at *
    unfold magn
    rw [if_neg (by omega), show (q * 2 ^ 52 + f - g) / 2 ^ 52 = q by omega, show (q * 2 ^ 52 + f - g) % 2 ^ 52 = f - g by omega]

theorem refFloor_zero {b : Nat} (hb : b < 2 ^ 64) (h : rung b < 1023 * 2 ^ 52) (hs : b < 2 ^ 63) : floorC b = 0 := by
  obtain ⟨r, h1, h2, h3⟩ := floor_word (b := b) (by unfold infR; omega)
  have e : sgn b = false := by rw [sgn_eq hb]; exact decide_eq_false (by omega)
  rw [e] at h2 h3
  unfold wholeK at h3
  rw [Nat.div_eq_of_lt (magn_small h)] at h3
  simp at h3
  rw [h2, magn_eq0 h3]; rfl

theorem refFloor_minus {b : Nat} (hb : b < 2 ^ 64) (h : rung b < 1023 * 2 ^ 52) (h0 : rung b ≠ 0) (hs : 2 ^ 63 ≤ b) : floorC b = 13830554455654793216 := by
  obtain ⟨r, h1, h2, h3⟩ := floor_word (b := b) (by unfold infR; omega)
  have e : sgn b = true := by rw [sgn_eq hb]; exact decide_eq_true hs
  rw [e] at h2 h3
  have hm := magn_small h
  have hz : magn (rung b) ≠ 0 := fun h' => h0 (magn_eq0 h')
  unfold wholeK at h3
  rw [Nat.div_eq_of_lt hm, Nat.mod_eq_of_lt hm] at h3
  have : (magn (rung b) != 0) = true := by simpa using hz
  rw [this] at h3
  simp at h3
  have hr : r = oneR := magn_inj.2.1 (h3.trans magn_one.symm)
  rw [h2, hr]; decide

theorem refFloor_plus {b d : Nat} (hb : b < 2 ^ 64) (h1 : 1023 * 2 ^ 52 ≤ rung b) (h2 : rung b < 1075 * 2 ^ 52) (hd : d = 1075 - rung b / 2 ^ 52) (hs : b < 2 ^ 63) : floorC b = b - b % 2 ^ d := by
  obtain ⟨m1, m2, m3, m4, m5⟩ := magn_mid h1 h2 hd
  have hf : rung b < infR := by unfold infR; omega
  obtain ⟨r, k1, k2, k3⟩ := floor_word hf
  have e : sgn b = false := by rw [sgn_eq hb]; exact decide_eq_false (by omega)
  have er : rung b = b := by unfold rung; omega
  rw [e] at k2 k3
  have hk : wholeK .down false (magn (rung b)) = magn (rung b) / unitV := by unfold wholeK; simp
  rw [hk, ← m2] at k3
  rw [k2, magn_inj.2.1 k3, er]; rfl

theorem refFloor_less {b d : Nat} (hb : b < 2 ^ 64) (h1 : 1023 * 2 ^ 52 ≤ rung b) (h2 : rung b < 1075 * 2 ^ 52) (hd : d = 1075 - rung b / 2 ^ 52) (hs : 2 ^ 63 ≤ b) (hz : b % 2 ^ d ≠ 0) :
    arithN .sub (b - b % 2 ^ d) 4607182418800017408 = floorC b := by
  obtain ⟨m1, m2, m3, m4, m5⟩ := magn_mid h1 h2 hd
  have hf : rung b < infR := by unfold infR; omega
  obtain ⟨r, k1, k2, k3⟩ := floor_word hf
  have e : sgn b = true := by rw [sgn_eq hb]; exact decide_eq_true hs
  have er : b = 2 ^ 63 + rung b := by unfold rung; omega
  have hbd : b % 2 ^ d = rung b % 2 ^ d := by
    obtain ⟨j, hj⟩ : ∃ j, 63 = j + d := ⟨63 - d, by omega⟩
    have e63 : 2 ^ 63 = 2 ^ j * 2 ^ d := by rw [hj, Nat.pow_add]
    conv => lhs; rw [er, e63, Nat.add_comm, Nat.add_mul_mod_self_right]
  rw [hbd] at hz ⊢
  have hle : rung b % 2 ^ d ≤ rung b := Nat.mod_le _ _
  have hw : b - rung b % 2 ^ d = Ieee.double.word true (rung b - rung b % 2 ^ d) := by
    show _ = 2 ^ 63 + _
    omega
  have hri : rung b - rung b % 2 ^ d < infR := by omega
  obtain ⟨w1, w2, w3⟩ := word_parts (s := true) hri
  obtain ⟨o1, o2, o3⟩ := word_parts (s := false) (r := oneR) (by decide)
  obtain ⟨k, c, hd', hk⟩ := rdw_finite (b := Ieee.double.word false oneR) (by rw [o1]; decide)
  rw [o1, magn_one] at hk
  rw [o2] at hd'
  have hKd : ∃ K, K = magn (rung b) / unitV := ⟨_, rfl⟩
  obtain ⟨K, hKe⟩ := hKd
  have hK : K < 2 ^ 53 := by
    rw [hKe]
    have : magn (rung b) % unitV ≠ 0 := fun h => hz (m1.1 h)
    have := (Nat.div_lt_iff_lt_mul unit_pos).2 (magn_part this)
    omega
  rw [← one_word, hw]
  show (((rdw _).sum (rdw _).opposite).map Ieee.double.write).getD oneNan = _
  rw [hd']
  show (((rdw _).sum (.number true k (leastP + c))).map Ieee.double.write).getD oneNan = _
  have hsum := sum_whole (x := Ieee.double.word true (rung b - rung b % 2 ^ d)) (p := -((K : Nat) : Int)) (q := -1) (z := -((K : Nat) : Int) - 1) (t := true) (k := k) (c := c)
    (by rw [w1]; exact hri) (by rw [w1, w2, m2, ← hKe]; unfold sv; simp [Int.neg_mul]) (by rw [hk]; unfold sv; simp) (by omega) (by omega) (by intro h; omega)
  rw [hsum, k2, e]
  obtain ⟨r', r1, r2, r3, r4⟩ := near_word (n := -((K : Nat) : Int) - 1) (by omega)
  rw [r3, decide_eq_true (by omega)]
  congr 1
  rw [e] at k3
  have hk3 : wholeK .down true (magn (rung b)) = K + 1 := by
    unfold wholeK
    rw [← hKe]
    have : (magn (rung b) % unitV != 0) = true := by simpa using fun h => hz (m1.1 h)
    rw [this]; rfl
  rw [hk3] at k3
  apply magn_inj.2.1
  rw [r4, k3]
  congr 1
  omega
end Go.Proofs.Ytppoepenmpcbnaa.J
