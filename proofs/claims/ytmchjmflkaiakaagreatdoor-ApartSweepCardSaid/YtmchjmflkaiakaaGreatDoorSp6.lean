/- Joined texts: ShL Sp6. -/
import Derived.Test.YtmchjmflkaiakaaGreatDoorSp3
/- Plain laws: what is taken from spans is in the result. -/
namespace Go.Proofs.YtmchjmflkaiakaaGreatDoor
open Go.RowKit
set_option linter.unusedVariables false
set_option linter.unusedSimpArgs false
theorem mul_le_r {a b c : Rat} (h : a ≤ b) (hc : 0 ≤ c) : a * c ≤ b * c := by
 rcases rat_tri a b with h1 | h1 | h1
 ·rcases rat_tri c 0 with h2 | h2 | h2
  ·grind
  ·subst h2; grind
  ·have := mul_lt_r h1 h2; grind
 ·subst h1; grind
 ·grind
end Go.Proofs.YtmchjmflkaiakaaGreatDoor
