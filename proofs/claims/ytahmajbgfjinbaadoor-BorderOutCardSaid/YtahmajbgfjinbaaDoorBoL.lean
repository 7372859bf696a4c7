/- Joined texts. -/
import Derived.Test.YtahmajbgfjinbaaDoorSpL
import Derived.Test.YtahmajbgfjinbaaDoorShL

/- Plain laws: the numbers of the bits of floating-point numbers. -/
namespace Go.Proofs.YtahmajbgfjinbaaDoor
open Go.RowKit
set_option linter.unusedVariables false
set_option linter.unusedSimpArgs false

def exE (b : Nat) : Nat := if b / 4503599627370496 = 0 then 1 else b / 4503599627370496
def exM (b : Nat) : Nat := if b / 4503599627370496 = 0 then b % 4503599627370496 else b % 4503599627370496 + 4503599627370496
def exN (b : Nat) : Nat := exM b * 2 ^ exE b
def pw (n : Nat) : Nat := 2 ^ n
theorem pw_pos (n : Nat) : 0 < pw n := Nat.pow_pos (by omega)
/-- the number of the bits b (no sign) -/
def ex (b : Nat) : Rat := (exN b : Rat) / ((pw 1075 : Nat) : Rat)
theorem exN_succ (b : Nat) : exN b < exN (b + 1) := by
  unfold exN exM exE
  obtain ⟨q, r, hb, hr⟩ : ∃ q r, b = 4503599627370496 * q + r ∧ r < 4503599627370496 := ⟨b / 4503599627370496, b % 4503599627370496, by omega, by omega⟩
  have h1 : b / 4503599627370496 = q := by omega
  have h2 : b % 4503599627370496 = r := by omega
  have hp : 0 < 2 ^ q := Nat.pow_pos (by omega)
  by_cases hr1 : r + 1 < 4503599627370496
  · have h3 : (b + 1) / 4503599627370496 = q := by omega
    have h4 : (b + 1) % 4503599627370496 = r + 1 := by omega
    rw [h1, h2, h3, h4]
    by_cases hq : q = 0
    · rw [if_pos hq, if_pos hq, if_pos hq]; omega
    · rw [if_neg hq, if_neg hq, if_neg hq]
      exact Nat.mul_lt_mul_of_pos_right (by omega) hp
  · have h3 : (b + 1) / 4503599627370496 = q + 1 := by omega
    have h4 : (b + 1) % 4503599627370496 = 0 := by omega
    have h5 : r = 4503599627370495 := by omega
    rw [h1, h2, h3, h4, h5]
    by_cases hq : q = 0
    · subst hq; decide
    · rw [if_neg hq, if_neg hq, if_neg (by omega), if_neg (by omega), Nat.pow_succ]
      omega
theorem exN_lt {a b : Nat} (h : a < b) : exN a < exN b := by
  induction b with
  | zero => omega
  | succ b ih =>
    have := exN_succ b
    rcases Nat.lt_or_ge a b with h1 | h1
    · have := ih h1; omega
    · have : a = b := by omega
      subst this; assumption
theorem ex_mul (b : Nat) : ex b * ((pw 1075 : Nat) : Rat) = (exN b : Rat) := by
  unfold ex
  exact Rat.div_mul_cancel (by
    intro h
    have h2 : ((pw 1075 : Nat) : Rat) = ((0 : Nat) : Rat) := h
    have h3 := Rat.natCast_inj.1 h2
    have := pw_pos 1075
    omega)
theorem ex_lt {a b : Nat} (h : a < b) : ex a < ex b := by
  apply Rat.not_le.1
  intro hle
  have h0 : (0 : Rat) ≤ ((pw 1075 : Nat) : Rat) := Rat.natCast_nonneg
  have := mul_le_r hle h0
  rw [ex_mul, ex_mul] at this
  have := Rat.natCast_le_natCast.1 this
  have := exN_lt h
  omega
theorem ex_le {a b : Nat} (h : a ≤ b) : ex a ≤ ex b := by
  rcases Nat.lt_or_ge a b with h1 | h1
  · have := ex_lt h1; grind
  · have : a = b := by omega
    subst this; exact Rat.le_refl
theorem ex_zero : ex 0 = 0 := by
  have h := ex_mul 0
  have e : exN 0 = 0 := by decide
  rw [e] at h
  rcases Rat.mul_eq_zero.1 (show ex 0 * ((pw 1075 : Nat) : Rat) = 0 from h) with h1 | h1
  · exact h1
  · exact absurd h1 (by
      intro h
      have h2 : ((pw 1075 : Nat) : Rat) = ((0 : Nat) : Rat) := h
      have h3 := Rat.natCast_inj.1 h2
      have := pw_pos 1075
      omega)
theorem pw_add (a b : Nat) : pw (a + b) = pw a * pw b := Nat.pow_add 2 a b
theorem pw_ne (n : Nat) : ((pw n : Nat) : Rat) ≠ 0 := by
  intro h
  have h2 : ((pw n : Nat) : Rat) = ((0 : Nat) : Rat) := h
  have h3 := Rat.natCast_inj.1 h2
  have := pw_pos n
  omega
/-- as package border computes it: a great exponent -/
theorem ex_hi {b : Nat} (h : 1075 ≤ exE b) : ((exM b : Nat) : Rat) * ((pw (exE b - 1075) : Nat) : Rat) = ex b := by
  have e : exN b = exM b * pw (exE b - 1075) * pw 1075 := by
    have : exE b = (exE b - 1075) + 1075 := by omega
    show exM b * pw (exE b) = _
    rw [this, pw_add, Nat.add_sub_cancel, Nat.mul_assoc]
  unfold ex
  rw [e, Rat.natCast_mul, Rat.natCast_mul, Rat.mul_div_cancel (pw_ne 1075)]
/-- a small exponent -/
theorem ex_lo {b : Nat} (h : exE b < 1075) : ((exM b : Nat) : Rat) / ((pw (1075 - exE b) : Nat) : Rat) = ex b := by
  have e : exN b * pw (1075 - exE b) = exM b * pw 1075 := by
    show exM b * pw (exE b) * pw (1075 - exE b) = _
    rw [Nat.mul_assoc, ← pw_add]
    have : exE b + (1075 - exE b) = 1075 := by omega
    rw [this]
  have e2 : ((exN b : Nat) : Rat) * ((pw (1075 - exE b) : Nat) : Rat) = ((exM b : Nat) : Rat) * ((pw 1075 : Nat) : Rat) := by
    rw [← Rat.natCast_mul, ← Rat.natCast_mul, e]
  have h1 := ex_mul b
  have n1 := pw_ne 1075
  have n2 := pw_ne (1075 - exE b)
  have e3 : ex b * ((pw (1075 - exE b) : Nat) : Rat) = ((exM b : Nat) : Rat) := by
    have : ex b * ((pw (1075 - exE b) : Nat) : Rat) * ((pw 1075 : Nat) : Rat) = ((exM b : Nat) : Rat) * ((pw 1075 : Nat) : Rat) := by
      rw [← e2, ← h1]; grind
    exact mul_cancel n1 this
  rw [← e3]; exact Rat.mul_div_cancel n2
/-- what under answers: the greatest one that is not greater -/
def Und (a : Rat) (u : Nat) : Prop := u < 9218868437227405312 ∧ ex u ≤ a ∧ (u + 1 = 9218868437227405312 ∨ a < ex (u + 1))
/-- half of the way to the next one -/
def midE (b : Nat) : Rat := (((1 : Int) : Rat) / ((2 : Int) : Rat)) * (ex b + ex (b + 1))
theorem half_is : ((1 : Int) : Rat) / ((2 : Int) : Rat) = 1 / 2 := by decide +kernel
theorem mid_gt (b : Nat) : ex b < midE b := by
  have h := ex_lt (show b < b + 1 by omega)
  unfold midE; rw [half_is]; grind
theorem mid_lt (b : Nat) : midE b < ex (b + 1) := by
  have h := ex_lt (show b < b + 1 by omega)
  unfold midE; rw [half_is]; grind
theorem und_mid {b : Nat} (h : b < 9218868437227405312) : Und (midE b) b :=
  ⟨h, by have := mid_gt b; grind, .inr (mid_lt b)⟩
theorem ex_nonneg (b : Nat) : 0 ≤ ex b := by
  have := ex_le (show 0 ≤ b by omega)
  rw [ex_zero] at this; exact this
theorem mid_pos (b : Nat) : 0 < midE b := by
  have h1 := mid_gt b
  have h2 := ex_nonneg b
  grind
theorem mid_back {b : Nat} (h : 0 < b) : (((1 : Int) : Rat) / ((2 : Int) : Rat)) * (ex b + ex (b - 1)) = midE (b - 1) := by
  unfold midE
  rw [show b - 1 + 1 = b by omega]; grind
theorem mid_le {a b : Nat} (h : a ≤ b) : midE a ≤ midE b := by
  have h1 := ex_le h
  have h2 := ex_le (show a + 1 ≤ b + 1 by omega)
  unfold midE; rw [half_is]; grind
/-- within the numbers that have bits -/
theorem mid_most {b : Nat} (h : b < 9218868437227405311) : midE b ≤ ex 9218868437227405311 := by
  have h1 := mid_lt b
  have h2 := ex_le (show b + 1 ≤ 9218868437227405311 by omega)
  grind
theorem mid_large : ex 9218868437227405311 < midE 9218868437227405311 := mid_gt _
end Go.Proofs.YtahmajbgfjinbaaDoor
