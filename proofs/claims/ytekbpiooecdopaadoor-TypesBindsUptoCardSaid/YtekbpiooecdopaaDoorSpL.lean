/- Joined texts: Sp0 SpL. -/
import Derived.Test.YtekbpiooecdopaaDoorSpQ
/- Turns: what the functions compute, and how large it is. -/
namespace Go.Proofs.YtekbpiooecdopaaDoor
open Go.RowKit
set_option linter.unusedVariables false
set_option linter.unusedSimpArgs false

/-! ### vectors -/
end Go.Proofs.YtekbpiooecdopaaDoor
