/- Joined texts. -/
import Derived.Test.YtiejgkmjaphbcaaDoorSp2
import Derived.Test.YtiejgkmjaphbcaaDoorSpL

/- package frame, framed (printed by lawvec.py). -/
namespace Go.Proofs.YtiejgkmjaphbcaaDoor
open Go.RowKit
set_option linter.unusedVariables false
set_option linter.unusedSimpArgs false

end Go.Proofs.YtiejgkmjaphbcaaDoor
