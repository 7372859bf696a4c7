/- Joined texts. -/
import Derived.Test.YtbgifinfflehmaaDoorAp4
import Derived.Test.YtbgifinfflehmaaDoorPo6

/- a frame whose turn is the zero value (printed by lawvec.py). -/
namespace Go.Proofs.YtbgifinfflehmaaDoor
open Go.RowKit
set_option linter.unusedVariables false
set_option linter.unusedSimpArgs false

end Go.Proofs.YtbgifinfflehmaaDoor
