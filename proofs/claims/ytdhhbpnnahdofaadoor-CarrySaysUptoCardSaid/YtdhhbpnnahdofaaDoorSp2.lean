/- Joined texts. -/
import Derived.Test.YtdhhbpnnahdofaaDoorSp1

/- turned, vector, num, turnBegun, vecBegun of package gantkeep1 (printed by lawvec.py). -/
namespace Go.Proofs.YtdhhbpnnahdofaaDoor
open Go.RowKit
set_option linter.unusedVariables false
set_option linter.unusedSimpArgs false

end Go.Proofs.YtdhhbpnnahdofaaDoor
