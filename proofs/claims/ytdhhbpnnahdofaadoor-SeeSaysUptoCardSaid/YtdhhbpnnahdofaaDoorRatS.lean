/- Joined texts. -/
import Derived.Test.YtdhhbpnnahdofaaDoorRatR

/- Plain laws of rounding, for RatRounds. -/
namespace Go.Proofs.YtdhhbpnnahdofaaDoor
open Go.RowKit
set_option linter.unusedVariables false
set_option linter.unusedSimpArgs false

end Go.Proofs.YtdhhbpnnahdofaaDoor
