/- Joined texts. -/
import Derived.Test.YtahmajbgfjinbaaDoorSp0

/- Plain laws of turns and vectors. -/
namespace Go.Proofs.YtahmajbgfjinbaaDoor
open Go.RowKit
set_option linter.unusedVariables false
set_option linter.unusedSimpArgs false

theorem mul_cancel {x y d : Rat} (hd : d ≠ 0) (h : x * d = y * d) : x = y := by
  have h1 : x * d / d = y * d / d := by rw [h]
  rwa [Rat.mul_div_cancel hd, Rat.mul_div_cancel hd] at h1
/-! ### vectors -/
end Go.Proofs.YtahmajbgfjinbaaDoor
