/- Joined texts. -/
import Derived.Test.YtoejojfjiikogaaGreatDoorSp2

/- package frame, framed (printed by lawvec.py). -/
namespace Go.Proofs.YtoejojfjiikogaaGreatDoor
open Go.RowKit
set_option linter.unusedVariables false
set_option linter.unusedSimpArgs false

end Go.Proofs.YtoejojfjiikogaaGreatDoor
