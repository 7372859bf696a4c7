/- Joined texts. -/
import Derived.Test.YtoejojfjiikogaaDoorRatR

/- Plain laws of rounding, for RatRounds. -/
namespace Go.Proofs.YtoejojfjiikogaaDoor
open Go.RowKit
set_option linter.unusedVariables false
set_option linter.unusedSimpArgs false

end Go.Proofs.YtoejojfjiikogaaDoor
