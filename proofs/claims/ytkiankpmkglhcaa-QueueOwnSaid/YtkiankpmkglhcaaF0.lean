/- Numbers as words: what a word is, and how two words stand to each other, by whole numbers alone. -/
import Derived.Test.YtkiankpmkglhcaaJ6
namespace Go.Proofs.Ytkiankpmkglhcaa.J
open Go Go.RowKit
set_option linter.unusedVariables false
set_option linter.unusedSimpArgs false

abbrev rdw (b : Nat) : Ieee.Datum := Ieee.double.read b
def isNan (b : Nat) : Bool := (rdw b).isNaN
def oneNan : Nat := 0x7ff8000000000000
def canonN (b : Nat) : Nat := if isNan b then oneNan else b

theorem compare_self (n : Int) : compare n n = .eq := by simp [compare, compareOfLessAndEq]

theorem ford_self (b : Nat) : ford b b = if isNan b then none else some .eq := by
  show (rdw b).order (rdw b) = if (rdw b).isNaN then none else some .eq
  cases h : rdw b with
  | nan s t => simp [Ieee.Datum.order, Ieee.Datum.isNaN]
  | infinity s => cases s <;> simp [Ieee.Datum.order, Ieee.Datum.isNaN, compare, compareOfLessAndEq]
  | number s m i => simp [Ieee.Datum.order, Ieee.Datum.isNaN, compare_self]

theorem fneq_self (b : Nat) : (ford b b != some .eq) = isNan b := by
  rw [ford_self]; cases isNan b <;> rfl

theorem nanAny_nan {c : Nat} (h : nanAny c) : isNan c = true := by
  obtain ⟨t, rfl⟩ := h
  unfold isNan rdw Ieee.Format.read Ieee.Format.signWeight Ieee.Format.infRung Ieee.Format.binade Ieee.double
  have h1 : (t / 2) % (2 ^ 52 - 1) < 2 ^ 52 - 1 := Nat.mod_lt _ (by decide)
  have h2 : ((t % 2) * 2 ^ 63 + 0x7ff0000000000000 + 1 + (t / 2) % (2 ^ 52 - 1)) % 2 ^ (11 + 52) = 0x7ff0000000000000 + 1 + (t / 2) % (2 ^ 52 - 1) := by omega
  simp only [h2]
  rw [if_neg (by omega), if_neg (by omega), if_neg (by omega)]
  rfl

/-! ### how two words stand to each other -/
def rung (b : Nat) : Nat := b % 2 ^ 63
def sgn (b : Nat) : Bool := b / 2 ^ 63 % 2 == 1
def infR : Nat := 2047 * 2 ^ 52
def sr (b : Nat) : Int := if sgn b then -(rung b : Int) else rung b
def magn (r : Nat) : Nat := if r < 2 ^ 52 then r else (2 ^ 52 + r % 2 ^ 52) * 2 ^ (r / 2 ^ 52 - 1)
def leastP : Int := -1074

theorem rdw_eq (b : Nat) : rdw b =
    if rung b < 2 ^ 52 then .number (sgn b) (rung b) leastP
    else if rung b < infR then .number (sgn b) (2 ^ 52 + rung b % 2 ^ 52) (leastP + ((rung b / 2 ^ 52 - 1 : Nat) : Int))
    else if rung b = infR then .infinity (sgn b) else .nan (sgn b) (rung b - infR) := rfl

theorem isNan_eq (b : Nat) : isNan b = decide (infR < rung b) := by
  unfold isNan
  rw [rdw_eq]
  unfold infR
  split
  · simp [Ieee.Datum.isNaN]; omega
  · split
    · simp [Ieee.Datum.isNaN]; omega
    · split
      · simp [Ieee.Datum.isNaN]; omega
      · simp [Ieee.Datum.isNaN]; omega

theorem magn_lt {r r' : Nat} (h : r < r') : magn r < magn r' := by
  unfold magn
  by_cases h1 : r' < 2 ^ 52
  · rw [if_pos (by omega), if_pos h1]; exact h
  · rw [if_neg h1]
    have hp : 0 < 2 ^ (r' / 2 ^ 52 - 1) := Nat.two_pow_pos _
    by_cases h2 : r < 2 ^ 52
    · rw [if_pos h2]
      calc r < 2 ^ 52 := h2
        _ ≤ (2 ^ 52 + r' % 2 ^ 52) * 1 := by omega
        _ ≤ _ := Nat.mul_le_mul_left _ hp
    · rw [if_neg h2]
      have hf : r % 2 ^ 52 < 2 ^ 52 := Nat.mod_lt _ (by decide)
      by_cases he : r / 2 ^ 52 = r' / 2 ^ 52
      · rw [he]
        refine Nat.mul_lt_mul_of_pos_right ?_ hp
        omega
      · have hlt : r / 2 ^ 52 < r' / 2 ^ 52 := by omega
        have h1' : 1 ≤ r / 2 ^ 52 := by omega
        calc (2 ^ 52 + r % 2 ^ 52) * 2 ^ (r / 2 ^ 52 - 1) < (2 ^ 52 * 2) * 2 ^ (r / 2 ^ 52 - 1) := Nat.mul_lt_mul_of_pos_right (by omega) (Nat.two_pow_pos _)
          _ = 2 ^ 52 * 2 ^ (r / 2 ^ 52 - 1 + 1) := by rw [show 2 ^ (r / 2 ^ 52 - 1 + 1) = 2 ^ (r / 2 ^ 52 - 1) * 2 from Nat.pow_succ _ _, Nat.mul_assoc, Nat.mul_comm 2]
          _ ≤ 2 ^ 52 * 2 ^ (r' / 2 ^ 52 - 1) := Nat.mul_le_mul_left _ (Nat.pow_le_pow_right (by decide) (by omega))
          _ ≤ _ := Nat.mul_le_mul_right _ (by omega)

theorem magn_inj {r r' : Nat} : (magn r < magn r' ↔ r < r') ∧ (magn r = magn r' ↔ r = r') := by
  rcases Nat.lt_trichotomy r r' with h | h | h
  · have := magn_lt h; exact ⟨by omega, by omega⟩
  · subst h; exact ⟨by omega, by simp⟩
  · have := magn_lt h; exact ⟨by omega, by omega⟩

theorem compare_int (a b : Int) : compare a b = if a < b then .lt else if a = b then .eq else .gt := by
  simp only [compare, compareOfLessAndEq]

theorem compare_scale (a b : Int) (k : Nat) : compare (a * 2 ^ k) (b * 2 ^ k) = compare a b := by
  have hp : (0 : Int) < 2 ^ k := Int.pow_pos (by decide)
  rw [compare_int, compare_int]
  by_cases h1 : a < b
  · rw [if_pos h1, if_pos (Int.mul_lt_mul_of_pos_right h1 hp)]
  · rw [if_neg h1, if_neg (by intro h; exact h1 (Int.lt_of_mul_lt_mul_right h (Int.le_of_lt hp)))]
    by_cases h2 : a = b
    · rw [if_pos h2, if_pos (by rw [h2])]
    · rw [if_neg h2, if_neg (by intro h; exact h2 (Int.eq_of_mul_eq_mul_right (Int.ne_of_gt hp) h))]

theorem signed_eq (s : Bool) (m k : Nat) : Ieee.signed s m k = (if s then -(m : Int) else m) * 2 ^ k := by
  unfold Ieee.signed
  rw [Nat.shiftLeft_eq]
  cases s <;> simp [Int.neg_mul]

theorem signed_scale (s : Bool) (m a c : Nat) (h : c ≤ a) : Ieee.signed s m a = Ieee.signed s m (a - c) * 2 ^ c := by
  rw [signed_eq, signed_eq, Int.mul_assoc, ← Int.pow_add, Nat.sub_add_cancel h]

theorem order_numbers (s t : Bool) (m k a b : Nat) : (Ieee.Datum.number s m (leastP + a)).order (.number t k (leastP + b)) = some (compare (Ieee.signed s m a) (Ieee.signed t k b)) := by
  have hb : min (leastP + (a : Int)) (leastP + b) = leastP + ((min a b : Nat) : Int) := by
    rcases Nat.le_total a b with h | h
    · rw [Nat.min_eq_left h, Int.min_eq_left (by omega)]
    · rw [Nat.min_eq_right h, Int.min_eq_right (by omega)]
  simp only [Ieee.Datum.order, hb]
  rw [show (leastP + (a : Int) - (leastP + ((min a b : Nat) : Int))).toNat = a - min a b by omega, show (leastP + (b : Int) - (leastP + ((min a b : Nat) : Int))).toNat = b - min a b by omega]
  rw [signed_scale s m a (min a b) (Nat.min_le_left _ _), signed_scale t k b (min a b) (Nat.min_le_right _ _), compare_scale]

theorem rdw_finite {b : Nat} (h : rung b < infR) : ∃ m a : Nat, rdw b = .number (sgn b) m (leastP + a) ∧ m * 2 ^ a = magn (rung b) := by
  rw [rdw_eq]
  by_cases h1 : rung b < 2 ^ 52
  · exact ⟨rung b, 0, by rw [if_pos h1]; simp, by simp [magn, h1]⟩
  · exact ⟨_, _, by rw [if_neg h1, if_pos h], by simp [magn, h1]⟩

theorem signed_magn {s : Bool} {m a r : Nat} (h : m * 2 ^ a = magn r) : Ieee.signed s m a = if s then -(magn r : Int) else magn r := by
  rw [signed_eq, ← h]
  cases s <;> simp [Int.neg_mul]

/-- How two words stand to each other: by their signs and rungs. -/
theorem ford_eq (x y : Nat) : ford x y = if isNan x || isNan y then none else some (compare (sr x) (sr y)) := by
  show (rdw x).order (rdw y) = _
  rw [isNan_eq, isNan_eq]
  by_cases hx : infR < rung x
  · have : rdw x = .nan (sgn x) (rung x - infR) := by rw [rdw_eq, if_neg (by unfold infR at hx; omega), if_neg (by omega), if_neg (by omega)]
    rw [this]; simp [Ieee.Datum.order, hx]
  · by_cases hy : infR < rung y
    · have : rdw y = .nan (sgn y) (rung y - infR) := by rw [rdw_eq, if_neg (by unfold infR at hy; omega), if_neg (by omega), if_neg (by omega)]
      rw [this]
      simp only [hy, hx, decide_true, decide_false, Bool.or_true, if_true]
      cases rdw x <;> rfl
    · simp only [hy, hx, decide_false, Bool.or_false, Bool.false_eq_true, if_false]
      have hinf : ∀ b, rung b = infR → rdw b = .infinity (sgn b) := fun b hb => by rw [rdw_eq, if_neg (by unfold infR at hb; omega), if_neg (by omega), if_pos hb]
      have hr0 : 0 < infR := by decide
      by_cases hxi : rung x = infR
      · by_cases hyi : rung y = infR
        · rw [hinf x hxi, hinf y hyi]
          simp only [Ieee.Datum.order, sr, hxi, hyi]
          cases sgn x <;> cases sgn y <;> rfl
        · obtain ⟨m, a, hm, _⟩ := rdw_finite (b := y) (by omega)
          rw [hinf x hxi, hm]
          simp only [Ieee.Datum.order, sr, hxi, compare_int]
          cases sgn x <;> cases sgn y <;> simp <;> (try rw [if_neg (by omega), if_neg (by omega)]) <;> (try omega)
      · obtain ⟨m, a, hm, hma⟩ := rdw_finite (b := x) (by omega)
        by_cases hyi : rung y = infR
        · rw [hinf y hyi, hm]
          simp only [Ieee.Datum.order, sr, hyi, compare_int]
          cases sgn x <;> cases sgn y <;> simp <;> (try rw [if_neg (by omega), if_neg (by omega)]) <;> (try omega)
        · obtain ⟨k, b, hk, hkb⟩ := rdw_finite (b := y) (by omega)
          rw [hm, hk, order_numbers, signed_magn hma, signed_magn hkb]
          have h1 := magn_inj (r := rung x) (r' := rung y)
          have h2 := magn_inj (r := rung y) (r' := rung x)
          have h0 : magn 0 = 0 := by decide
          have h3 := magn_inj (r := 0) (r' := rung x)
          have h4 := magn_inj (r := 0) (r' := rung y)
          rw [h0] at h3 h4
          simp only [sr, compare_int]
          congr 1
          cases sgn x <;> cases sgn y <;> simp only [if_true, if_false, Bool.false_eq_true]
          · by_cases hl : rung x < rung y
            · rw [if_pos (by have := h1.1.2 hl; omega), if_pos (by omega)]
            · by_cases he : rung x = rung y
              · rw [he]; simp
              · rw [if_neg (by have := h1.1; omega), if_neg (by have := h1.2; omega), if_neg (by omega), if_neg (by omega)]
          · by_cases he : rung x = 0 ∧ rung y = 0
            · rw [he.1, he.2]; simp [h0]
            · rw [if_neg (by omega), if_neg (by have := h3.2; have := h4.2; omega), if_neg (by omega), if_neg (by omega)]
          · by_cases he : rung x = 0 ∧ rung y = 0
            · rw [he.1, he.2]; simp [h0]
            · rw [if_pos (by have := h3.1; have := h4.1; omega), if_pos (by omega)]
          · by_cases hl : rung y < rung x
            · rw [if_pos (by have := h2.1.2 hl; omega), if_pos (by omega)]
            · by_cases he : rung x = rung y
              · rw [he]; simp
              · rw [if_neg (by have := h2.1; omega), if_neg (by have := h1.2; omega), if_neg (by omega), if_neg (by omega)]

/-! ### comparisons as Bools -/
section
variable {x y : Nat}
theorem ford_cmp (hx : isNan x = false) (hy : isNan y = false) : ford x y = some (compare (sr x) (sr y)) := by rw [ford_eq, hx, hy]; rfl
theorem ford_gt (hx : isNan x = false) (hy : isNan y = false) : (ford x y == some .gt) = decide (sr y < sr x) := by
  rw [ford_cmp hx hy, compare_int]
  by_cases h1 : sr x < sr y
  · rw [if_pos h1]; simp; omega
  · rw [if_neg h1]
    by_cases h2 : sr x = sr y
    · rw [if_pos h2]; simp; omega
    · rw [if_neg h2]; simp; omega
theorem ford_lt (hx : isNan x = false) (hy : isNan y = false) : (ford x y == some .lt) = decide (sr x < sr y) := by
  rw [ford_cmp hx hy, compare_int]
  by_cases h1 : sr x < sr y
  · rw [if_pos h1]; simp; omega
  · rw [if_neg h1]
    by_cases h2 : sr x = sr y
    · rw [if_pos h2]; simp; omega
    · rw [if_neg h2]; simp; omega
theorem ford_eql (hx : isNan x = false) (hy : isNan y = false) : (ford x y == some .eq) = decide (sr x = sr y) := by
  rw [ford_cmp hx hy, compare_int]
  by_cases h1 : sr x < sr y
  · rw [if_pos h1]; simp; omega
  · rw [if_neg h1]
    by_cases h2 : sr x = sr y
    · rw [if_pos h2]; simp; omega
    · rw [if_neg h2]; simp; omega
end
theorem ford_nanL {x y : Nat} (h : isNan x = true) : ford x y = none := by rw [ford_eq, h]; rfl
theorem ford_nanR {x y : Nat} (h : isNan y = true) : ford x y = none := by rw [ford_eq, h, Bool.or_true]; rfl

/-! ### bits -/
theorem wrap_u64 (n : Nat) (h : n < 2 ^ 64) : IntKind.u64.wrap (n : Int) = n := wu64 (by omega)
theorem bits_and (a b : Nat) (ha : a < 2 ^ 64) (hb : b < 2 ^ 64) : bitsOp .and .u64 (a : Int) (b : Int) = ((a &&& b : Nat) : Int) := by
  show IntKind.u64.wrap (((BitVec.ofInt 64 (a : Int)) &&& (BitVec.ofInt 64 (b : Int))).toNat : Int) = _
  rw [BitVec.ofInt_natCast, BitVec.ofInt_natCast, BitVec.toNat_and, BitVec.toNat_ofNat, BitVec.toNat_ofNat, Nat.mod_eq_of_lt ha, Nat.mod_eq_of_lt hb]
  exact wrap_u64 _ (Nat.lt_of_le_of_lt Nat.and_le_left ha)
theorem bits_or (a b : Nat) (ha : a < 2 ^ 64) (hb : b < 2 ^ 64) : bitsOp .or .u64 (a : Int) (b : Int) = ((a ||| b : Nat) : Int) := by
  show IntKind.u64.wrap (((BitVec.ofInt 64 (a : Int)) ||| (BitVec.ofInt 64 (b : Int))).toNat : Int) = _
  rw [BitVec.ofInt_natCast, BitVec.ofInt_natCast, BitVec.toNat_or, BitVec.toNat_ofNat, BitVec.toNat_ofNat, Nat.mod_eq_of_lt ha, Nat.mod_eq_of_lt hb]
  exact wrap_u64 _ (Nat.or_lt_two_pow ha hb)
theorem bits_xor (a b : Nat) (ha : a < 2 ^ 64) (hb : b < 2 ^ 64) : bitsOp .xor .u64 (a : Int) (b : Int) = ((a ^^^ b : Nat) : Int) := by
  show IntKind.u64.wrap (((BitVec.ofInt 64 (a : Int)) ^^^ (BitVec.ofInt 64 (b : Int))).toNat : Int) = _
  rw [BitVec.ofInt_natCast, BitVec.ofInt_natCast, BitVec.toNat_xor, BitVec.toNat_ofNat, BitVec.toNat_ofNat, Nat.mod_eq_of_lt ha, Nat.mod_eq_of_lt hb]
  exact wrap_u64 _ (Nat.xor_lt_two_pow ha hb)
theorem and_mask (a k : Nat) : a &&& (2 ^ k - 1) = a % 2 ^ k := Nat.and_two_pow_sub_one_eq_mod a k
theorem bits_andNot (a b : Nat) (ha : a < 2 ^ 64) (hb : b < 2 ^ 64) : bitsOp .andNot .u64 (a : Int) (b : Int) = ((a &&& (2 ^ 64 - 1 - b) : Nat) : Int) := by
  show IntKind.u64.wrap (((BitVec.ofInt 64 (a : Int)) &&& ~~~(BitVec.ofInt 64 (b : Int))).toNat : Int) = _
  rw [BitVec.ofInt_natCast, BitVec.ofInt_natCast, BitVec.toNat_and, BitVec.toNat_not, BitVec.toNat_ofNat, BitVec.toNat_ofNat, Nat.mod_eq_of_lt ha, Nat.mod_eq_of_lt hb]
  exact wrap_u64 _ (Nat.lt_of_le_of_lt Nat.and_le_left ha)
theorem absbits (b : Nat) (hb : b < 2 ^ 64) : bitsOp .andNot .u64 (b : Int) 9223372036854775808 = ((b % 2 ^ 63 : Nat) : Int) := by
  have := bits_andNot b 9223372036854775808 hb (by decide)
  rw [show ((9223372036854775808 : Nat) : Int) = 9223372036854775808 from rfl] at this
  rw [this, show 2 ^ 64 - 1 - 9223372036854775808 = 2 ^ 63 - 1 from rfl, and_mask]
theorem shr_nat (b k : Nat) : (b : Int).fdiv (2 ^ k) = ((b / 2 ^ k : Nat) : Int) := by
  rw [Int.fdiv_eq_ediv_of_nonneg _ (Int.le_of_lt (Int.pow_pos (by decide)))]
  rw [show ((2 : Int) ^ k) = ((2 ^ k : Nat) : Int) by simp]
  rfl
theorem wrap_i64_hi {b : Nat} (h : 2 ^ 63 ≤ b) (h2 : b < 2 ^ 64) : IntKind.i64.wrap (b : Int) = (b : Int) - 2 ^ 64 := by
  rw [IntKind.wrap_i64]; omega

/-! ### the page's numbers -/
def classN (b : Nat) : Int := if isNan b then 5 else if rung b = infR then 4 else if 2 ^ 52 ≤ rung b then 3 else if 0 < rung b then 2 else if 2 ^ 63 ≤ b then 1 else 0
def orderN (b : Nat) : Nat := if isNan b then 2 ^ 64 - 1 else if 2 ^ 63 ≤ b then 2 ^ 64 - 1 - b else b + 2 ^ 63

theorem rung_abs (b : Nat) : rung (b % 2 ^ 63) = rung b := by unfold rung; omega
theorem sgn_abs (b : Nat) : sgn (b % 2 ^ 63) = false := by
  unfold sgn
  rw [Nat.div_eq_of_lt (Nat.mod_lt _ (by decide))]; rfl
theorem isNan_abs (b : Nat) : isNan (b % 2 ^ 63) = isNan b := by rw [isNan_eq, isNan_eq, rung_abs]
theorem sr_abs (b : Nat) : sr (b % 2 ^ 63) = rung b := by unfold sr; rw [sgn_abs, rung_abs]; rfl

theorem order_bits {b : Nat} (hb : b < 2 ^ 64) (hn : isNan b = false) :
    bitsOp .xor .u64 (b : Int) (bitsOp .or .u64 (IntKind.u64.wrap ((IntKind.i64.wrap (b : Int)).fdiv (2 ^ 63))) 9223372036854775808) = (orderN b : Int) := by
  unfold orderN
  rw [hn, if_neg (by decide)]
  by_cases h : 2 ^ 63 ≤ b
  · rw [wrap_i64_hi h hb, if_pos h]
    have h1 : ((b : Int) - 2 ^ 64).fdiv (2 ^ 63) = -1 := by
      rw [Int.fdiv_eq_ediv_of_nonneg _ (by decide)]; omega
    rw [h1, show IntKind.u64.wrap (-1) = ((2 ^ 64 - 1 : Nat) : Int) from rfl]
    have h2 := bits_or (2 ^ 64 - 1) 9223372036854775808 (by decide) (by decide)
    rw [show ((9223372036854775808 : Nat) : Int) = 9223372036854775808 from rfl] at h2
    rw [h2, bits_xor _ _ hb (by decide), show (2 ^ 64 - 1 ||| 9223372036854775808) = 2 ^ 64 - 1 from rfl]
    congr 1
    have : b ^^^ (2 ^ 64 - 1) = 2 ^ 64 - 1 - b := by
      have h3 := BitVec.toNat_not (x := BitVec.ofNat 64 b)
      rw [← BitVec.xor_allOnes, BitVec.toNat_xor, BitVec.toNat_allOnes, BitVec.toNat_ofNat, Nat.mod_eq_of_lt hb] at h3
      exact h3
    exact this
  · rw [w64 (by omega), if_neg h]
    have h1 : (b : Int).fdiv (2 ^ 63) = 0 := by
      rw [Int.fdiv_eq_ediv_of_nonneg _ (by decide)]; omega
    rw [h1, show IntKind.u64.wrap 0 = ((0 : Nat) : Int) from rfl]
    have h2 := bits_or 0 9223372036854775808 (by decide) (by decide)
    rw [show ((9223372036854775808 : Nat) : Int) = 9223372036854775808 from rfl] at h2
    rw [h2, bits_xor _ _ hb (by decide)]
    congr 1
    show b ^^^ 2 ^ 63 = b + 2 ^ 63
    have h3 : b < 2 ^ 63 := by omega
    have h4 : (b ^^^ 2 ^ 63) % 2 ^ 63 = b := by rw [Nat.xor_mod_two_pow, Nat.mod_eq_of_lt h3]; simp
    have h5 : (b ^^^ 2 ^ 63) / 2 ^ 63 = 1 := by rw [Nat.xor_div_two_pow, Nat.div_eq_of_lt h3]; rfl
    omega

end Go.Proofs.Ytkiankpmkglhcaa.J
