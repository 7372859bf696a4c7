/- Joined texts. -/
import Derived.Test.YtdhhbpnnahdofaaDoorRatS

/- gantmake.Below and gantmake.Rat with their values said; rat.Of, rat.Make in one spelling. -/
namespace Go.Proofs.YtdhhbpnnahdofaaDoor
open Go.RowKit
set_option linter.unusedVariables false
set_option linter.unusedSimpArgs false

def six (m : Nat) : Nat := [1, 2, 3, 4, 5, 8].getD m 1

section
variable {W : World} {l : List Own}
theorem of_q {n : Int} {z : Rat} (hT : Tab W) (h0 : -9223372036854775808 ≤ n) (h1 : n ≤ 9223372036854775807) (hz : (n : Rat) = z) (w : World) (h : St W l w) :
    Calls Tryd.prog 34 #[.int .i64 n] w fun e w' => e = .returned (.agg (RC z)) ∧ Below w.heap.size w w' := by
  rw [← hz]; exact of_R n w h0 h1 (tabS hT h)
end
end Go.Proofs.YtdhhbpnnahdofaaDoor
