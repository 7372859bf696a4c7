/- Joined texts: Sp5 ShL ThL Sp6 Sp7. -/
import Derived.Test.YtoejojfjiikogaaDoorSp3
import Derived.LoopN
/- made, spanBegun of package gantkeep1; span.Make, span.Sq (printed by lawvec.py). -/
namespace Go.Proofs.YtoejojfjiikogaaDoor
open Go.RowKit
set_option linter.unusedVariables false
set_option linter.unusedSimpArgs false

end Go.Proofs.YtoejojfjiikogaaDoor
/- Plain laws: what is taken from spans is in the result. -/
namespace Go.Proofs.YtoejojfjiikogaaDoor
open Go.RowKit
set_option linter.unusedVariables false
set_option linter.unusedSimpArgs false

theorem mul_le_r {a b c : Rat} (h : a ≤ b) (hc : 0 ≤ c) : a * c ≤ b * c := by
  rcases rat_tri a b with h1 | h1 | h1
  · rcases rat_tri c 0 with h2 | h2 | h2
    · grind
    · subst h2; grind
    · have := mul_lt_r h1 h2; grind
  · subst h1; grind
  · grind
end Go.Proofs.YtoejojfjiikogaaDoor
/- Plain laws: cosines and sines of the joint values of a span. -/
namespace Go.Proofs.YtoejojfjiikogaaDoor
open Go.RowKit
set_option linter.unusedVariables false
set_option linter.unusedSimpArgs false

theorem one_sq_pos (p : Rat) : 0 < 1 + p * p := by have := sq_nonneg p; grind
theorem mul_nn {a b : Rat} (h1 : 0 ≤ a) (h2 : 0 ≤ b) : 0 ≤ a * b := by have := mul_le_r h1 h2; grind
theorem sin_negQ (p : Rat) : sinT (-p) = -sinT p := sin_back p
end Go.Proofs.YtoejojfjiikogaaDoor
/- span.Div, Out, Sq; part (printed by lawvec.py). -/
namespace Go.Proofs.YtoejojfjiikogaaDoor
open Go.RowKit
set_option linter.unusedVariables false
set_option linter.unusedSimpArgs false

end Go.Proofs.YtoejojfjiikogaaDoor
/- turn.CosSpan, SinSpan (printed by lawvec.py). -/
namespace Go.Proofs.YtoejojfjiikogaaDoor
open Go.RowKit
set_option linter.unusedVariables false
set_option linter.unusedSimpArgs false

end Go.Proofs.YtoejojfjiikogaaDoor
