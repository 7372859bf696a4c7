/- Joined texts. -/
import Derived.Test.YtoejojfjiikogaaGreatDoorAp4
import Derived.Test.YtoejojfjiikogaaGreatDoorPo6

/- a frame whose turn is the zero value (printed by lawvec.py). -/
namespace Go.Proofs.YtoejojfjiikogaaGreatDoor
open Go.RowKit
set_option linter.unusedVariables false
set_option linter.unusedSimpArgs false

end Go.Proofs.YtoejojfjiikogaaGreatDoor
