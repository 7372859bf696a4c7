/- Joined texts. -/
import Derived.Test.YtiejgkmjaphbcaaDoorAp2
import Derived.Deep.LoopGhost

/- package apart: Sq (printed by lawvec.py). -/
namespace Go.Proofs.YtiejgkmjaphbcaaDoor
open Go.RowKit
set_option linter.unusedVariables false
set_option linter.unusedSimpArgs false

theorem sqQ_rz {k : Nat} {a b : Pts} (ha : Pz k a) (hb : Pz k b) (h1 : 2 ≤ a.length) (h2 : 2 ≤ b.length) : Rz (96 * k + 27) (sqQ a b) := by
  unfold sqQ
  split
  · exact Rz.zero2.more (by omega)
  · exact sqB_rz ha hb h1 h2 (sqA_rz ha hb h1 h2 _ (Nat.le_refl _)) _ (Nat.le_refl _)
end Go.Proofs.YtiejgkmjaphbcaaDoor
