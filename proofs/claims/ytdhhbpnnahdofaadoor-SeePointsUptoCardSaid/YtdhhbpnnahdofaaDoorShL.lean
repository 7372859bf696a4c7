/- Joined texts. -/
import Derived.Test.YtdhhbpnnahdofaaDoorSp5

/- Plain laws: what is taken from spans is in the result. -/
namespace Go.Proofs.YtdhhbpnnahdofaaDoor
open Go.RowKit
set_option linter.unusedVariables false
set_option linter.unusedSimpArgs false

theorem mul_le_r {a b c : Rat} (h : a ≤ b) (hc : 0 ≤ c) : a * c ≤ b * c := by
  rcases rat_tri a b with h1 | h1 | h1
  · rcases rat_tri c 0 with h2 | h2 | h2
    · grind
    · subst h2; grind
    · have := mul_lt_r h1 h2; grind
  · subst h1; grind
  · grind
theorem mul_ge_r {a b c : Rat} (h : a ≤ b) (hc : c ≤ 0) : b * c ≤ a * c := by
  have := mul_le_r h (show 0 ≤ -c by grind); grind
theorem sq_hi {l h a : Rat} (h1 : l ≤ a) (h2 : a ≤ h) : a * a ≤ maxQ (l * l) (h * h) := by
  have e1 := le_max_l (l * l) (h * h)
  have e2 := le_max_r (l * l) (h * h)
  rcases rat_tri a 0 with ha | ha | ha
  · have a1 := mul_ge_r h1 (show a ≤ 0 by grind)
    have a2 := mul_ge_r h1 (show l ≤ 0 by grind)
    grind
  · subst ha; have := sq_nonneg l; grind
  · have a1 := mul_le_r h2 (show 0 ≤ a by grind)
    have a2 := mul_le_r h2 (show 0 ≤ h by grind)
    grind
theorem sq_lo {l h a : Rat} (h1 : l ≤ a) (h2 : a ≤ h) (h0 : ¬ (l ≤ 0 ∧ 0 ≤ h)) : minQ (l * l) (h * h) ≤ a * a := by
  have e1 := min_le_l (l * l) (h * h)
  have e2 := min_le_r (l * l) (h * h)
  rcases rat_tri l 0 with hl | hl | hl
  · have a1 := mul_ge_r h2 (show a ≤ 0 by grind)
    have a2 := mul_ge_r h2 (show h ≤ 0 by grind)
    grind
  · grind
  · have a1 := mul_le_r h1 (show 0 ≤ a by grind)
    have a2 := mul_le_r h1 (show 0 ≤ l by grind)
    grind
def sqLo (l h : Rat) : Rat := if l ≤ 0 ∧ 0 ≤ h then 0 else minQ (l * l) (h * h)
theorem sq_in {l h a : Rat} (h1 : l ≤ a) (h2 : a ≤ h) : sqLo l h ≤ a * a ∧ a * a ≤ maxQ (l * l) (h * h) := by
  refine ⟨?_, sq_hi h1 h2⟩
  unfold sqLo
  by_cases h0 : l ≤ 0 ∧ 0 ≤ h
  · rw [if_pos h0]; exact sq_nonneg a
  · rw [if_neg h0]; exact sq_lo h1 h2 h0
end Go.Proofs.YtdhhbpnnahdofaaDoor
