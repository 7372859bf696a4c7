/- wide, Widen, WideOf, meet, within, Inside, Same. -/
import Derived.Test.YtdhhbpnnahdofaaDoorSe2
import Derived.LoopN

namespace Go.Proofs.YtdhhbpnnahdofaaDoor
open Go.RowKit
set_option linter.unusedVariables false
set_option linter.unusedSimpArgs false

theorem RawT.pos {k : Nat} {x : Rat} {g : Bool} {t : RT} (h : RawT k x g t) (h0 : 0 < x) : t = rt x := by
  cases g with
  | true => exact h.good
  | false => have := h.bad; subst this; exact absurd h0 (by grind)
end Go.Proofs.YtdhhbpnnahdofaaDoor
