/- Rational functions at numbers that came in: Add. -/
import Derived.Test.YtdhhbpnnahdofaaDoorRwB

namespace Go.Proofs.YtdhhbpnnahdofaaDoor
open Go.RowKit
set_option linter.unusedVariables false
set_option linter.unusedSimpArgs false


section
variable {W : World} {l : List Own} {k : Nat} {x y : Rat} {g1 g2 : Bool} {t1 t2 : RT}
end
end Go.Proofs.YtdhhbpnnahdofaaDoor
