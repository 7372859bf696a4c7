/- Joined texts. -/
import Derived.Test.YtoejojfjiikogaaDoorSp0

/- Plain laws of turns and vectors. -/
namespace Go.Proofs.YtoejojfjiikogaaDoor
open Go.RowKit
set_option linter.unusedVariables false
set_option linter.unusedSimpArgs false

theorem sin_back (t : Rat) : sinT (-t) = -sinT t := by
  unfold sinT
  have : -t * -t = t * t := by grind
  rw [this]
  have := one_sq t
  grind
/-! ### vectors -/
end Go.Proofs.YtoejojfjiikogaaDoor
