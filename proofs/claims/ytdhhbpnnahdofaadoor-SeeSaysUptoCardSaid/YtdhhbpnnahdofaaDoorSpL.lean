/- Joined texts. -/
import Derived.Test.YtdhhbpnnahdofaaDoorSp0

/- Plain laws of turns and vectors. -/
namespace Go.Proofs.YtdhhbpnnahdofaaDoor
open Go.RowKit
set_option linter.unusedVariables false
set_option linter.unusedSimpArgs false

/-! ### vectors -/
end Go.Proofs.YtdhhbpnnahdofaaDoor
