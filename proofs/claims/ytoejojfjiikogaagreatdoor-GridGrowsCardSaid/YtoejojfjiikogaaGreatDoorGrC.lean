/- Cells: grid.Check of a valid set (printed by gridp.py). -/
import Derived.Test.YtoejojfjiikogaaGreatDoorGrH

namespace Go.Proofs.YtoejojfjiikogaaGreatDoor
open Go.RowKit
set_option linter.unusedVariables false
set_option linter.unusedSimpArgs false

set_option maxHeartbeats 1000000 in
theorem on_yes (x : Int) (w : World) (h1 : -64 ≤ x) (h2 : x < 64) : Calls Tryz.prog 38 #[.int .i64 x] w fun e w' => e = .returned (.bool true) ∧ w' = w := by
  have e1 : decide (x ≥ -64) = true := decide_eq_true h1
  have e2 : decide (x < 64) = true := decide_eq_true h2
  go_enter Tryz.func38, Tryz.ntmps38
  go_wp2_with fail
  go_ret
  exact ⟨by first | rfl | (congr 2; simp; omega) | simp_all, rfl⟩
end Go.Proofs.YtoejojfjiikogaaGreatDoor
