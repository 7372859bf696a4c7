/- Numbers that came in, cell by cell; the blocks of a state in another order (lines of see/XSe0). -/
import Derived.Test.YtoejojfjiikogaaDoorRwA
import Derived.LoopN

namespace Go.Proofs.YtoejojfjiikogaaDoor
universe u
open Go.RowKit
set_option linter.unusedVariables false
set_option linter.unusedSimpArgs false

theorem St.f1 {W w : World} {x0 a : Own} {l : List Own} (h : St W (x0 :: a :: l) w) : St W (a :: x0 :: l) w := St.perm h (List.perm_middle (l₁ := [x0]))
theorem St.f2 {W w : World} {x0 x1 a : Own} {l : List Own} (h : St W (x0 :: x1 :: a :: l) w) : St W (a :: x0 :: x1 :: l) w := St.perm h (List.perm_middle (l₁ := [x0, x1]))
theorem St.f3 {W w : World} {x0 x1 x2 a : Own} {l : List Own} (h : St W (x0 :: x1 :: x2 :: a :: l) w) : St W (a :: x0 :: x1 :: x2 :: l) w := St.perm h (List.perm_middle (l₁ := [x0, x1, x2]))
/-- the cells of a zero value -/
def rz0 : RT := ⟨false, ⟨#[]⟩, ⟨#[]⟩⟩
theorem cmpQ_gt (x y : Rat) : cmpQ x y > 0 ↔ y < x := by unfold cmpQ; grind
end Go.Proofs.YtoejojfjiikogaaDoor
