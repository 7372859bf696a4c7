/- Joined texts: RatR RatS RatT. -/
import Derived.Test.YtoejojfjiikogaaDoorRatQ
/- rat.whole, Down, Up, Floor (walks printed by ratround.py). -/
namespace Go.Proofs.YtoejojfjiikogaaDoor
open Go.RowKit
set_option linter.unusedVariables false
set_option linter.unusedSimpArgs false

theorem Sz.div {k m : Nat} (h : Sz k m) (n : Nat) : Sz k (m / n) := h.le (Nat.div_le_self _ _)


theorem Rz.intQ {k : Nat} {z : Int} (h : Sz k z.natAbs) (hk : 1 ≤ k) : Rz k (z : Rat) := ⟨h, Sz.one.more hk⟩




end Go.Proofs.YtoejojfjiikogaaDoor
/- Plain laws of rounding, for RatRounds. -/
namespace Go.Proofs.YtoejojfjiikogaaDoor
open Go.RowKit
set_option linter.unusedVariables false
set_option linter.unusedSimpArgs false

end Go.Proofs.YtoejojfjiikogaaDoor
/- gantmake.Below and gantmake.Rat with their values said; rat.Of, rat.Make in one spelling. -/
namespace Go.Proofs.YtoejojfjiikogaaDoor
open Go.RowKit
set_option linter.unusedVariables false
set_option linter.unusedSimpArgs false

def six (m : Nat) : Nat := [1, 2, 3, 4, 5, 8].getD m 1

section
variable {W : World} {l : List Own}
theorem of_q {n : Int} {z : Rat} (hT : Tab W) (h0 : -9223372036854775808 ≤ n) (h1 : n ≤ 9223372036854775807) (hz : (n : Rat) = z) (w : World) (h : St W l w) :
    Calls Tryd.prog 28 #[.int .i64 n] w fun e w' => e = .returned (.agg (RC z)) ∧ Below w.heap.size w w' := by
  rw [← hz]; exact of_R n w h0 h1 (tabS hT h)
end
end Go.Proofs.YtoejojfjiikogaaDoor
