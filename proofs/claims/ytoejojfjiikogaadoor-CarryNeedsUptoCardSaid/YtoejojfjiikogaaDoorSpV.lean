/- Slices of points that came in. -/
import Derived.Test.YtoejojfjiikogaaDoorSeO
import Derived.Test.YtoejojfjiikogaaDoorSp9
import Derived.Test.YtoejojfjiikogaaDoorBulkE

namespace Go.Proofs.YtoejojfjiikogaaDoor
open Go.RowKit Go.ChangeShapes Go.WideShapes Go.Deep
set_option linter.unusedVariables false
set_option linter.unusedSimpArgs false

end Go.Proofs.YtoejojfjiikogaaDoor
