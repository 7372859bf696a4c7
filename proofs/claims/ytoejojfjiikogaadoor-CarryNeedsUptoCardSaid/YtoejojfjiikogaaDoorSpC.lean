/- Joined texts: SpB SpC. -/
import Derived.Test.YtoejojfjiikogaaDoorSp9
import Derived.LoopN
import Derived.Deep.LoopGhost
import Derived.Test.YtoejojfjiikogaaDoorSp7
namespace Go.Proofs.YtoejojfjiikogaaDoor
open Go.RowKit
set_option linter.unusedVariables false
set_option linter.unusedSimpArgs false

theorem mul_neg_min (a b v : Rat) : minQ (a * -v) (b * -v) = -(maxQ (a * v) (b * v)) := by rw [Rat.mul_neg, Rat.mul_neg, min_negQ]
theorem mul_neg_max (a b v : Rat) : maxQ (a * -v) (b * -v) = -(minQ (a * v) (b * v)) := by rw [Rat.mul_neg, Rat.mul_neg, max_negQ]
theorem minmax_le (a b : Rat) : minQ a b ≤ maxQ a b := by rw [minQ_eq, maxQ_eq]; grind
theorem sub_le2 {a b c d : Rat} (h1 : a ≤ b) (h2 : c ≤ d) : a - d ≤ b - c := by grind
theorem add_le2 {a b c d : Rat} (h1 : a ≤ b) (h2 : c ≤ d) : a + c ≤ b + d := by grind
section
variable {k : Nat} {x tl th u v : Rat}
end
end Go.Proofs.YtoejojfjiikogaaDoor
namespace Go.Proofs.YtoejojfjiikogaaDoor
open Go.RowKit
set_option linter.unusedVariables false
set_option linter.unusedSimpArgs false

end Go.Proofs.YtoejojfjiikogaaDoor
