/- Plain: what two poses have in common. -/
import Derived.Test.YtdhhbpnnahdofaaDoorSe3
import Derived.LoopN

namespace Go.Proofs.YtdhhbpnnahdofaaDoor
open Go.RowKit
set_option linter.unusedVariables false
set_option linter.unusedSimpArgs false

end Go.Proofs.YtdhhbpnnahdofaaDoor
