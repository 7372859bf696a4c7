/- Joined texts: ShL ThL. -/
import Derived.Test.YtdhhbpnnahdofaaDoorSp5
/- Plain laws: what is taken from spans is in the result. -/
namespace Go.Proofs.YtdhhbpnnahdofaaDoor
open Go.RowKit
set_option linter.unusedVariables false
set_option linter.unusedSimpArgs false

theorem mul_le_r {a b c : Rat} (h : a ≤ b) (hc : 0 ≤ c) : a * c ≤ b * c := by
  rcases rat_tri a b with h1 | h1 | h1
  · rcases rat_tri c 0 with h2 | h2 | h2
    · grind
    · subst h2; grind
    · have := mul_lt_r h1 h2; grind
  · subst h1; grind
  · grind
theorem mul_ge_r {a b c : Rat} (h : a ≤ b) (hc : c ≤ 0) : b * c ≤ a * c := by
  have := mul_le_r h (show 0 ≤ -c by grind); grind
theorem sq_hi {l h a : Rat} (h1 : l ≤ a) (h2 : a ≤ h) : a * a ≤ maxQ (l * l) (h * h) := by
  have e1 := le_max_l (l * l) (h * h)
  have e2 := le_max_r (l * l) (h * h)
  rcases rat_tri a 0 with ha | ha | ha
  · have a1 := mul_ge_r h1 (show a ≤ 0 by grind)
    have a2 := mul_ge_r h1 (show l ≤ 0 by grind)
    grind
  · subst ha; have := sq_nonneg l; grind
  · have a1 := mul_le_r h2 (show 0 ≤ a by grind)
    have a2 := mul_le_r h2 (show 0 ≤ h by grind)
    grind
theorem sq_lo {l h a : Rat} (h1 : l ≤ a) (h2 : a ≤ h) (h0 : ¬ (l ≤ 0 ∧ 0 ≤ h)) : minQ (l * l) (h * h) ≤ a * a := by
  have e1 := min_le_l (l * l) (h * h)
  have e2 := min_le_r (l * l) (h * h)
  rcases rat_tri l 0 with hl | hl | hl
  · have a1 := mul_ge_r h2 (show a ≤ 0 by grind)
    have a2 := mul_ge_r h2 (show h ≤ 0 by grind)
    grind
  · grind
  · have a1 := mul_le_r h1 (show 0 ≤ a by grind)
    have a2 := mul_le_r h1 (show 0 ≤ l by grind)
    grind
def sqLo (l h : Rat) : Rat := if l ≤ 0 ∧ 0 ≤ h then 0 else minQ (l * l) (h * h)
theorem sq_in {l h a : Rat} (h1 : l ≤ a) (h2 : a ≤ h) : sqLo l h ≤ a * a ∧ a * a ≤ maxQ (l * l) (h * h) := by
  refine ⟨?_, sq_hi h1 h2⟩
  unfold sqLo
  by_cases h0 : l ≤ 0 ∧ 0 ≤ h
  · rw [if_pos h0]; exact sq_nonneg a
  · rw [if_neg h0]; exact sq_lo h1 h2 h0
end Go.Proofs.YtdhhbpnnahdofaaDoor
/- Plain laws: cosines and sines of the joint values of a span. -/
namespace Go.Proofs.YtdhhbpnnahdofaaDoor
open Go.RowKit
set_option linter.unusedVariables false
set_option linter.unusedSimpArgs false

def fC (x : Rat) : Rat := (1 - x) / (1 + x)
theorem fC_mul {x : Rat} (h : 0 ≤ x) : fC x * (1 + x) = 1 - x := by
  have : 1 + x ≠ 0 := by grind
  unfold fC; exact Rat.div_mul_cancel this
theorem fC_anti {x y : Rat} (h0 : 0 ≤ x) (h : x ≤ y) : fC y ≤ fC x := by
  have hx := fC_mul h0
  have hy := fC_mul (show 0 ≤ y by grind)
  have hp : 0 < (1 + x) * (1 + y) := by
    have := mul_lt_r (show 0 < 1 + x by grind) (show 0 < 1 + y by grind); grind
  refine le_of_mul hp ?_
  have e1 : fC y * ((1 + x) * (1 + y)) = (1 - y) * (1 + x) := by rw [← hy]; grind
  have e2 : fC x * ((1 + x) * (1 + y)) = (1 - x) * (1 + y) := by rw [← hx]; grind
  rw [e1, e2]; grind
theorem fC_cos (p : Rat) : fC (p * p) = cosT false p := by
  unfold fC cosT; simp
theorem sqLo_nonneg (l h : Rat) : 0 ≤ sqLo l h := by
  unfold sqLo
  split
  · exact Rat.le_refl
  · exact le_min (sq_nonneg l) (sq_nonneg h)
theorem cos_in {l h p : Rat} (h1 : l ≤ p) (h2 : p ≤ h) : fC (maxQ (l * l) (h * h)) ≤ cosT false p ∧ cosT false p ≤ fC (sqLo l h) := by
  have e := sq_in h1 h2
  rw [← fC_cos]
  exact ⟨fC_anti (sq_nonneg p) e.2, fC_anti (sqLo_nonneg l h) e.1⟩
theorem sin_mul (p : Rat) : sinT p * (1 + p * p) = p + p := by
  unfold sinT; exact Rat.div_mul_cancel (one_sq p)
theorem one_sq_pos (p : Rat) : 0 < 1 + p * p := by have := sq_nonneg p; grind
/-- sines compared -/
theorem sin_le {q p : Rat} (h : 0 ≤ (p - q) * (1 - p * q)) : sinT q ≤ sinT p := by
  have hp := sin_mul p
  have hq := sin_mul q
  have h1 := one_sq_pos p
  have h2 := one_sq_pos q
  have hpos : 0 < (1 + p * p) * (1 + q * q) := by have := mul_lt_r h1 h2; grind
  refine le_of_mul hpos ?_
  have e1 : sinT q * ((1 + p * p) * (1 + q * q)) = (q + q) * (1 + p * p) := by rw [← hq]; grind
  have e2 : sinT p * ((1 + p * p) * (1 + q * q)) = (p + p) * (1 + q * q) := by rw [← hp]; grind
  rw [e1, e2]
  have e3 : (p + p) * (1 + q * q) - (q + q) * (1 + p * p) = 2 * ((p - q) * (1 - p * q)) := by grind
  grind
theorem mul_nn {a b : Rat} (h1 : 0 ≤ a) (h2 : 0 ≤ b) : 0 ≤ a * b := by have := mul_le_r h1 h2; grind
theorem mul_pp {a b : Rat} (h1 : a ≤ 0) (h2 : b ≤ 0) : 0 ≤ a * b := by have := mul_ge_r h1 h2; grind
theorem sin_neg1 : sinT (-1) = -1 := by unfold sinT; decide +kernel
theorem sin_pos1 : sinT 1 = 1 := by unfold sinT; decide +kernel
theorem sin_ge (p : Rat) : -1 ≤ sinT p := by
  rw [← sin_neg1]
  refine sin_le ?_
  have e : (p - -1) * (1 - p * -1) = (p + 1) * (p + 1) := by grind
  rw [e]; exact sq_nonneg _
theorem sin_le1 (p : Rat) : sinT p ≤ 1 := by
  rw [← sin_pos1]
  refine sin_le ?_
  have e : (1 - p) * (1 - 1 * p) = (1 - p) * (1 - p) := by grind
  rw [e]; exact sq_nonneg _
/-- beyond the place of the least sine the sine is not less than at one of the ends -/
theorem sin_low {l h p : Rat} (h1 : l ≤ p) (h2 : p ≤ h) (h0 : ¬ (l ≤ -1 ∧ -1 ≤ h)) : minQ (sinT l) (sinT h) ≤ sinT p := by
  have e1 := min_le_l (sinT l) (sinT h)
  have e2 := min_le_r (sinT l) (sinT h)
  by_cases hh : h < -1
  · have : sinT h ≤ sinT p := sin_le (mul_pp (by grind) (by
      have := mul_ge_r (show p ≤ -1 by grind) (show h ≤ 0 by grind)
      have h3 : p * h = p * h := rfl
      grind))
    grind
  · have hl : -1 < l := by grind
    by_cases hpl : p * l ≤ 1
    · have : sinT l ≤ sinT p := sin_le (mul_nn (by grind) (by grind))
      grind
    · have hl0 : 0 < l := by
        rcases rat_tri l 0 with h3 | h3 | h3
        · exfalso
          rcases rat_tri p 0 with h4 | h4 | h4
          · have a1 := mul_ge_r (show -1 ≤ p by grind) (show l ≤ 0 by grind)
            grind
          · subst h4; grind
          · have a1 := mul_ge_r (show 0 ≤ p by grind) (show l ≤ 0 by grind)
            grind
        · subst h3; grind
        · exact h3
      have a2 := mul_le_r (show l ≤ h by grind) (show 0 ≤ p by grind)
      have : sinT h ≤ sinT p := sin_le (mul_pp (by grind) (by grind))
      grind
theorem sin_negQ (p : Rat) : sinT (-p) = -sinT p := sin_back p
theorem sin_high {l h p : Rat} (h1 : l ≤ p) (h2 : p ≤ h) (h0 : ¬ (l ≤ 1 ∧ 1 ≤ h)) : sinT p ≤ maxQ (sinT l) (sinT h) := by
  have a := sin_low (l := -h) (h := -l) (p := -p) (by grind) (by grind) (fun e => h0 ⟨by grind, by grind⟩)
  rw [sin_negQ, sin_negQ, sin_negQ] at a
  have e1 := le_max_l (sinT l) (sinT h)
  have e2 := le_max_r (sinT l) (sinT h)
  have e3 : minQ (-sinT h) (-sinT l) = -sinT h ∨ minQ (-sinT h) (-sinT l) = -sinT l := by unfold minQ; split <;> simp
  rcases e3 with e3 | e3 <;> rw [e3] at a <;> grind
def sLo (l h : Rat) : Rat := if l ≤ -1 ∧ -1 ≤ h then -1 else minQ (sinT l) (sinT h)
def sHi (l h : Rat) : Rat := if l ≤ 1 ∧ 1 ≤ h then 1 else maxQ (sinT l) (sinT h)
theorem sin_in {l h p : Rat} (h1 : l ≤ p) (h2 : p ≤ h) : sLo l h ≤ sinT p ∧ sinT p ≤ sHi l h := by
  unfold sLo sHi
  constructor
  · by_cases h0 : l ≤ -1 ∧ -1 ≤ h
    · rw [if_pos h0]; exact sin_ge p
    · rw [if_neg h0]; exact sin_low h1 h2 h0
  · by_cases h0 : l ≤ 1 ∧ 1 ≤ h
    · rw [if_pos h0]; exact sin_le1 p
    · rw [if_neg h0]; exact sin_high h1 h2 h0
/-- what the joins of SinSpan make -/
theorem jm {a b : Rat} (h : -1 ≤ a) (h2 : b ≤ 1) : minQ a (-1) = -1 ∧ maxQ b 1 = 1 := by
  have e1 := min_le_r a (-1)
  have e2 := le_min h (Rat.le_refl (a := -1))
  have e3 := le_max_r b 1
  have e4 := max_le h2 (Rat.le_refl (a := 1))
  constructor <;> grind
theorem jx {a b : Rat} (h : -1 ≤ a) (h2 : b ≤ 1) : maxQ a (-1) = a ∧ minQ b 1 = b := by
  have e1 := le_max_l a (-1)
  have e2 := max_le (Rat.le_refl (a := a)) h
  have e3 := min_le_l b 1
  have e4 := le_min (Rat.le_refl (a := b)) h2
  constructor <;> grind
end Go.Proofs.YtdhhbpnnahdofaaDoor
