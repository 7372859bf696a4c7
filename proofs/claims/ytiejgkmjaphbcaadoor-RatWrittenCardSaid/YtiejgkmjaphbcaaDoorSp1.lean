/- Joined texts. -/
import Derived.Test.YtiejgkmjaphbcaaDoorSp0

/- Walks of packages turn and vec (printed by span1.py). -/
namespace Go.Proofs.YtiejgkmjaphbcaaDoor
open Go.RowKit
set_option linter.unusedVariables false
set_option linter.unusedSimpArgs false

end Go.Proofs.YtiejgkmjaphbcaaDoor
