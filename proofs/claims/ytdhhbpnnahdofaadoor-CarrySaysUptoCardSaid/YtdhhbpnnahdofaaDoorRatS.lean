/- Joined texts. -/
import Derived.Test.YtdhhbpnnahdofaaDoorRatR

/- Plain laws of rounding, for RatRounds. -/
namespace Go.Proofs.YtdhhbpnnahdofaaDoor
open Go.RowKit
set_option linter.unusedVariables false
set_option linter.unusedSimpArgs false

theorem le_of_mul {x y d : Rat} (hd : 0 < d) (h : x * d ≤ y * d) : x ≤ y := by
  rcases rat_tri x y with h1 | h1 | h1
  · grind
  · grind
  · have := mul_lt_r h1 hd; grind
theorem cmp_le {x y : Rat} (h : x ≤ y) : cmpQ x y ≤ 0 := by unfold cmpQ; grind
theorem cmp_gt {x y : Rat} (h : y < x) : 0 < cmpQ x y := by unfold cmpQ; grind
end Go.Proofs.YtdhhbpnnahdofaaDoor
