/- Joined texts. -/
import Derived.Test.YtdhhbpnnahdofaaDoorSpQ

/- Turns: what the functions compute, and how large it is. -/
namespace Go.Proofs.YtdhhbpnnahdofaaDoor
open Go.RowKit
set_option linter.unusedVariables false
set_option linter.unusedSimpArgs false

theorem Rz.zero2 : Rz 2 (0 : Rat) := Rz.lit (z := 0) rfl (by decide)
end Go.Proofs.YtdhhbpnnahdofaaDoor
